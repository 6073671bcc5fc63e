/-
Walk: hypercuberef36.text.
-/
import Derived.Test.YtahdjajdaggmjaaGreatDoorZwr
import Derived.Test.YtahdjajdaggmjaaGreatDoorUtab
import Derived.BigQuiet
import Derived.Deep.QuietTactic
import Derived.Test.YtahdjajdaggmjaaGreatDoorWEqStruct
import Derived.Test.YtahdjajdaggmjaaGreatDoorWLast
import Derived.Test.YtahdjajdaggmjaaGreatDoorYrec
import Derived.Test.YtahdjajdaggmjaaGreatDoorYdec
import Derived.Test.YtahdjajdaggmjaaGreatDoorZrall
import Derived.Test.YtahdjajdaggmjaaGreatDoorWWords
section
set_option linter.unusedVariables false
set_option linter.unusedSimpArgs false
namespace Go.Proofs.YtahdjajdaggmjaaGreatDoor.XPa
open Go.RowKit Go.Proofs.YtahdjajdaggmjaaGreatDoorW.PrintWords Go.Proofs.YtahdjajdaggmjaaGreatDoorW.PrintLast Go.Proofs.YtahdjajdaggmjaaGreatDoorW.PrintMore
set_option maxHeartbeats 1000000 in
set_option maxRecDepth 100000 in
theorem ref36_text (HNum : ∀ (n : Nat) (w : World), n ≤ 2000000 → Calls Tryz.prog 24 #[.int .i64 (n : Int)] w fun e w' => ∃ v, e = .returned v ∧ Kd.R (Kd.int .u8) 5 w' w.heap.size (fun _ => True) v (numL n) ∧ Below w.heap.size w w')
  (s : ByteArray) (w : World) (hs : s.size ≤ 2000000) :
  Calls Tryz.prog 26 #[.string s] w fun e w' => ∃ v, e = .returned v ∧ Kd.R (Kd.int .u8) 5 w' w.heap.size (fun _ => True) v (textL s) ∧ Below w.heap.size w w' := by
 have hc := HNum s.size w hs
 have hln := numL_length s.size (by omega)
 have kb := fun W => print_bytes (P := Tryz.prog) 9 23 5 Tryz.underlying9 Tryz.underlying23 Tryz.underlying5 s W
 clear HNum
 go_enter Tryz.func26, Tryz.ntmps26
 go_wp2_with (first
  | (go_at_call 24; refine hc.mono ?_; rintro e w1 ⟨v1, rfl, hr1, hb1⟩; have HR1 := Aside0.mk hr1; have HB1 := Aside0.mk hb1; have HZ : Aside0 (w.heap.size ≤ w1.heap.size) := ⟨hb1.size⟩; clear hr1 hb1 hc)
  | (at_builtin; refine print_append_row (w0 := w) w.heap.size rfl (.tmp 5) (.tmp 7) 23 5 .u8 1 rfl Tryz.underlying23 uint8_info (by decide) v1 (numL s.size) (bytesOf s) _ s.size _ rfl rfl (pw_own_below (Kd.own_of_R HR1.out) (bytes_below (Below.refl _ _) (Nat.le_refl _) _ _)) (bytes_reads w1 _ s (by omega)) (bytes_below HB1.out HZ.out _ _) (by rw [Lib.bytesWorld_size]; have := HZ.out; omega) (by omega) ?_; intro v2 w2 ho2 hb2 _ _; have HR2 : Aside0 (Kd.R (Kd.int .u8) 5 w2 w.heap.size (fun _ => True) v2 (textL s)) := ⟨Kd.R_of_own ho2 (fun _ _ => trivial)⟩; have HB2 := Aside0.mk hb2; clear ho2 hb2))
 go_ret
 exact ⟨_, rfl, HR2.out, HB2.out⟩
end Go.Proofs.YtahdjajdaggmjaaGreatDoor.XPa
end
section
namespace Go.Proofs.YtahdjajdaggmjaaGreatDoor
open Go.RowKit Go.Proofs.YtahdjajdaggmjaaGreatDoorW.PrintWords Go.Proofs.YtahdjajdaggmjaaGreatDoorW.PrintLast Go.Proofs.YtahdjajdaggmjaaGreatDoorW.PrintMore
def moreN (c : Nat) : Option (Nat × Nat) :=
 if c < 128 then some (0, 0) else if 194 ≤ c ∧ c ≤ 223 then some (1, 128) else if 224 ≤ c ∧ c ≤ 239 then some (2, 2048) else if 240 ≤ c ∧ c ≤ 244 then some (3, 65536) else none
def headTab : List Int := [128, 32, 16, 8]
def headArr : Array Value := (headTab.map (Value.int .i64)).toArray
def tails : Nat → List UInt8 → Nat → Option Nat
 | 0, _, r => some r
 | _ + 1, [], _ => none
 | n + 1, c :: t, r => if c.toNat < 128 ∨ 191 < c.toNat then none else tails n t (r * 64 + c.toNat - 128)
def rCap : Nat → Nat
 | 1 => 127
 | 2 => 8191
 | 3 => 524287
 | _ => 33554431
theorem rCap_step {i r d : Nat} (h1 : 1 ≤ i) (h3 : i ≤ 3) (hr : r ≤ rCap i) (hd : d ≤ 63) : r * 64 + d ≤ rCap (i + 1) := by
 match i, h1, h3 with
 | 1, _, _ => simp only [rCap] at hr ⊢; omega
 | 2, _, _ => simp only [rCap] at hr ⊢; omega
 | 3, _, _ => simp only [rCap] at hr ⊢; omega
theorem rCap_le {i r : Nat} (hr : r ≤ rCap i) : r ≤ 33554431 := by
 unfold rCap at hr
 split at hr <;> omega
theorem rCap_le3 {i r : Nat} (h1 : 1 ≤ i) (h3 : i ≤ 3) (hr : r ≤ rCap i) : r ≤ 524287 := by
 match i, h1, h3 with
 | 1, _, _ => simp only [rCap] at hr; omega
 | 2, _, _ => simp only [rCap] at hr; omega
 | 3, _, _ => simp only [rCap] at hr; omega
def utfN : Nat → List UInt8 → Nat → Int
 | _, [], _ => -1
 | 0, _ :: _, _ => -1
 | k + 1, c :: t, i => match moreN c.toNat with
  | none => (i : Int)
  | some (n, low) => if t.length < n then (i : Int) else match tails n t (c.toNat % (headTab.getD n 0).toNat) with
   | none => (i : Int)
   | some r => if r < low ∨ 1114111 < r ∨ 55296 ≤ r ∧ r ≤ 57343 then (i : Int) else utfN k (t.drop n) (i + n + 1)
theorem utfN_fuel : ∀ (k m : Nat) (l : List UInt8) (i : Nat), l.length ≤ k → l.length ≤ m → utfN k l i = utfN m l i
 | _, _, [], _, _, _ => by simp only [utfN]
 | 0, _, _ :: _, _, h, _ => absurd h (by simp)
 | _ + 1, 0, _ :: _, _, _, h => absurd h (by simp)
 | k + 1, m + 1, c :: t, i, h, h' => by
  simp only [utfN]
  cases moreN c.toNat with
  | none => rfl
  | some p =>
   obtain ⟨n, low⟩ := p
   dsimp only
   rw [List.length_cons] at h h'
   rw [utfN_fuel k m (t.drop n) _ (by rw [List.length_drop]; omega) (by rw [List.length_drop]; omega)]
theorem u8wrap (c : UInt8) : IntKind.i64.wrap ((c.toNat : Nat) : Int) = ((c.toNat : Nat) : Int) := by
 have := c.toNat_lt
 rw [IntKind.wrap_i64]
 omega
theorem u8wrap' (c : UInt8) : wrap64 ((c.toNat : Nat) : Int) = ((c.toNat : Nat) : Int) := by
 have := c.toNat_lt
 unfold wrap64
 omega
theorem moreN_le {c n low : Nat} (h : moreN c = some (n, low)) : n ≤ 3 ∧ low ≤ 65536 := by
 unfold moreN at h
 repeat' split at h
 all_goals first | cases h | skip
 all_goals omega
set_option maxRecDepth 100000 in
set_option maxHeartbeats 4000000 in
theorem ref06_Utf (HM : ∀ (c : UInt8) (w : World), Calls Tryz.prog 80 #[.int .u8 (c.toNat : Int)] w fun e w' => e = .returned (match moreN c.toNat with | some (n, low) => .tuple #[.int .i64 (n : Int), .int .i64 (low : Int)] | none => .tuple #[.int .i64 (-1), .int .i64 0]) ∧ Below w.heap.size w w')
  (s : ByteArray) (w : World) (hs : s.size ≤ 1000000) :
  Calls Tryz.prog 56 #[.string s] w fun e w' => e = .returned (.int .i64 (utfN s.size s.data.toList 0)) ∧ Below w.heap.size w w' := by
 have HM' := Lib.hid HM
 clear HM
 go_enter Tryz.func56, Tryz.ntmps56
 go_wp2
 go_loopg [3] (s.size + 1) (fun kq v3 w' => ∃ j : Nat, v3 = .int .i64 (j : Int) ∧ j ≤ s.size ∧ s.size < kq + j ∧ Hid (utfN s.size s.data.toList 0 = utfN (s.size - j) (s.data.toList.drop j) j) ∧ Below w.heap.size w w')
 case atStart => exact ⟨0, rfl, by omega, by omega, Lib.hid rfl, Below.refl _ _⟩
 case round =>
  obtain ⟨j, rfl, hj, hk, hR, hb⟩ := hrel
  have hsz := hb.size
  have HB := Lib.hid hb
  clear hb
  by_cases hlt : j < s.size
  ·have hd := Lib.hid (drop_bt s j hlt)
   obtain ⟨c, hc⟩ : ∃ c : UInt8, s[j] = c := ⟨_, rfl⟩
   have HC := Lib.hid hc
   have hx : ((s[j]'hlt).toNat : Int) = (c.toNat : Int) := by rw [hc]
   have hst : s.size - j = (s.size - (j + 1)) + 1 := by omega
   have hlen : Hid ((s.data.toList.drop (j + 1)).length = s.size - (j + 1)) := Lib.hid (by rw [List.length_drop, ← Lib.size_eq])
   clear hc
   have HMc := HM'.out c wr
   cases hm : moreN c.toNat with
   | none =>
    rw [hm] at HMc
    have hR' : Hid (utfN s.size s.data.toList 0 = j) := by
     refine Lib.hid ?_
     rw [hR.out, hd.out, HC.out, hst]
     simp only [utfN, hm]
    have Hm := Lib.hid hm
    clear hR hm hst
    go_wp2_with (go_at_call 80; refine HMc.mono ?_; rintro e w2 ⟨rfl, hb2⟩; have HB2 := Lib.hid (below_then HB.out hsz hb2); clear hb2)
    go_ret
    exact ⟨by rw [hR'.out]; rfl, HB2.out⟩
   | some p =>
    obtain ⟨n, low⟩ := p
    rw [hm] at HMc
    have hn3 := moreN_le hm
    have Hm := Lib.hid hm
    clear hm
    by_cases hsh : s.size - (j + 1) < n
    ·have hR' : Hid (utfN s.size s.data.toList 0 = j) := by
      refine Lib.hid ?_
      rw [hR.out, hd.out, HC.out, hst]
      simp only [utfN, Hm.out]
      rw [hlen.out, if_pos hsh]
     have ew : IntKind.i64.wrap ((j : Int) + (n : Int)) = ((j + n : Nat) : Int) := by rw [IntKind.wrap_i64]; omega
     have e1 : decide (((s.size : Nat) : Int) ≤ ((j + n : Nat) : Int)) = true := decide_eq_true (by omega)
     clear hR hst
     go_wp2_with (go_at_call 80; refine HMc.mono ?_; rintro e w2 ⟨rfl, hb2⟩; have HB2 := Lib.hid (below_then HB.out hsz hb2); clear hb2)
     go_ret
     exact ⟨by rw [hR'.out]; rfl, HB2.out⟩
    ·have ew : IntKind.i64.wrap ((j : Int) + (n : Int)) = ((j + n : Nat) : Int) := by rw [IntKind.wrap_i64]; omega
     have e1 : decide (((s.size : Nat) : Int) ≤ ((j + n : Nat) : Int)) = false := decide_eq_false (by omega)
     obtain ⟨H, hH, hH0, hH1⟩ : ∃ H : Nat, headTab.getD n 0 = (H : Int) ∧ 0 < H ∧ H ≤ 128 := by
      have h3 := hn3.1
      match n, h3 with
      | 0, _ => exact ⟨128, rfl, by omega, by omega⟩
      | 1, _ => exact ⟨32, rfl, by omega, by omega⟩
      | 2, _ => exact ⟨16, rfl, by omega, by omega⟩
      | 3, _ => exact ⟨8, rfl, by omega, by omega⟩
      | k + 4, h => exact absurd h (by omega)
     have hat : headArr[n]? = some (.int .i64 (H : Int)) := by
      unfold headArr
      rw [List.getElem?_toArray, List.getElem?_map, ← hH, List.getD_eq_getElem?_getD, List.getElem?_eq_getElem (show n < headTab.length by show n < 4; omega)]
      rfl
     have HH := Lib.hid hH
     have hq0 : ((H : Int) == 0) = false := by rw [Bool.eq_false_iff]; intro h; have := eq_of_beq h; omega
     clear hH
     have Hat := Lib.hid hat
     clear hat
     go_wp2_with (first
      | (go_at_call 80; refine HMc.mono ?_; rintro e w2 ⟨rfl, hb2⟩; have HB2 := Lib.hid (below_then HB.out hsz hb2); have hz2 := HB2.out.size; clear hb2)
      | (refine wpList_build_as rfl 129 _ rfl headArr (by kernel_rfl) ?_)
      | (refine wpList_store_new rfl 129 _ _ rfl headArr _ rfl rfl (by kernel_rfl) (by kernel_rfl) (by kernel_rfl) ?_))
     have hcell : (w2.alloc (.cells headArr 129)).cell? ⟨w2.heap.size, n, none⟩ = some (.int .i64 (H : Int)) := by
      rw [cell_of_row _ _ n headArr _ (0, 0) (heap_alloc_last w2 _), Hat.out]
     have HB3 : Hid (Below w.heap.size w (w2.alloc (.cells headArr 129))) := Lib.hid (HB2.out.alloc hz2 _)
     generalize hhb : w2.heap.size = hb at *
     generalize w2.alloc (.cells headArr 129) = w3 at hcell HB3 ⊢
     clear hhb
     have HB4 : Hid (Below w.heap.size w w3.drew) := Lib.hid (below_drew HB3.out)
     have hcl : c.toNat < 256 := c.toNat_lt
     have hcw := u8wrap' c
     have hn4 : (n : Int) < 4 := by have := hn3.1; omega
     have hHn : ¬ H = 0 := by omega
     have hwc := u8wrap c
     refine start_ (n := 9) (S := fun w' => w'.cell? ⟨hb, n, none⟩ = some (.int .i64 (H : Int))) (ds := []) #[false, false, false, false, false, false, false, false, false] (by kernel_rfl) rfl rfl hcell (fun hHeld => ?_)
     generalize w3.drew = w4 at *
     refine pu_ 0 37 ?_
     refine pu_ 1 38 ?_
     refine pu_ 2 39 ?_
     refine pu_ 3 40 ?_
     refine pu_ 4 41 ?_
     refine pu_ 5 42 ?_
     refine ta_ 6 43 ?_
     refine pu_ 7 44 ?_
     refine pu_ 8 7 ?_
     refine done_ (by kernel_rfl) ?_
     clear hcw hwc
     go_wp2
     obtain ⟨go, rfl⟩ : ∃ go, go = gk := ⟨_, rfl⟩
     go_loopg [7, 8] (n + 1) (fun kq v7 v8 w' => ∃ i r : Nat, v7 = .int .i64 (r : Int) ∧ v8 = .int .i64 (i : Int) ∧ 1 ≤ i ∧ i ≤ n + 1 ∧ n + 2 = kq + i ∧ Hid (r ≤ rCap i) ∧ Hid (tails n (s.data.toList.drop (j + 1)) (c.toNat % H) = tails (n + 1 - i) (s.data.toList.drop (j + i)) r) ∧ Below w.heap.size w w')
     case atStart =>
      have hm : c.toNat % H < H := Nat.mod_lt _ hH0
      exact ⟨1, c.toNat % H, by first | rfl | (rw [hcw]; rfl), rfl, by omega, by omega, by omega, Lib.hid (by show c.toNat % H ≤ 127; omega), Lib.hid rfl, HB4.out⟩
     case round =>
      obtain ⟨i, r, rfl, rfl, hi1, hi2, hki, hr0, hRi, hbi⟩ := hrel
      have hr1 := rCap_le hr0.out
      have HBi := Lib.hid hbi
      clear hbi
      by_cases hin : i ≤ n
      ·have hdi := Lib.hid (drop_bt s (j + i) (by omega))
       obtain ⟨d, hdd⟩ : ∃ d : UInt8, s[j + i] = d := ⟨_, rfl⟩
       have HD := Lib.hid hdd
       have hxi : ((s[j + i]'(by omega)).toNat : Int) = (d.toNat : Int) := by rw [hdd]
       have hdl : d.toNat < 256 := d.toNat_lt
       have hst2 : n + 1 - i = (n + 1 - (i + 1)) + 1 := by omega
       have hr3 := rCap_le3 hi1 (by omega) hr0.out
       clear hdd
       by_cases hbad : d.toNat < 128 ∨ 191 < d.toNat
       ·have hR' : Hid (utfN s.size s.data.toList 0 = j) := by
         refine Lib.hid ?_
         rw [hR.out, hd.out, HC.out, hst]
         simp only [utfN, Hm.out]
         rw [hlen.out, if_neg hsh, HH.out, Int.toNat_natCast, hRi.out, hdi.out, HD.out, hst2]
         simp only [tails, if_pos hbad]
        clear hRi hst2
        rcases hbad with hb1 | hb1
        ·have hb2 : decide (((d.toNat : Nat) : Int) < 128) = true := decide_eq_true (by omega)
         go_wp2
         go_ret
         exact ⟨by rw [hR'.out]; rfl, HBi.out⟩
        ·have hb2 : decide (((d.toNat : Nat) : Int) < 128) = false := decide_eq_false (by omega)
         have hb3 : decide (191 < ((d.toNat : Nat) : Int)) = true := decide_eq_true (by omega)
         go_wp2
         go_ret
         exact ⟨by rw [hR'.out]; rfl, HBi.out⟩
       ·have hR2 : Hid (tails n (s.data.toList.drop (j + 1)) (c.toNat % H) = tails (n + 1 - (i + 1)) (s.data.toList.drop (j + (i + 1))) (r * 64 + d.toNat - 128)) := by
         refine Lib.hid ?_
         rw [hRi.out, hdi.out, HD.out, hst2]
         simp only [tails, if_neg hbad]
         rfl
        have hb2 : decide (((d.toNat : Nat) : Int) < 128) = false := decide_eq_false (by omega)
        have hb3 : decide (191 < ((d.toNat : Nat) : Int)) = false := decide_eq_false (by omega)
        clear hRi hst2
        go_wp2
        go_roundg (gk - 1)
        case measure => omega
        case rel => exact ⟨i + 1, r * 64 + d.toNat - 128, by first | rfl | exact congrArg (Value.int .i64) (by omega) | go_num, by first | rfl | exact congrArg (Value.int .i64) (by omega) | go_num, by omega, by omega, by omega, Lib.hid (by have := rCap_step hi1 (by omega) hr0.out (d := d.toNat - 128) (by omega); rwa [show r * 64 + d.toNat - 128 = r * 64 + (d.toNat - 128) by omega]), hR2, HBi.out⟩
      ·have hti : Hid (tails n (s.data.toList.drop (j + 1)) (c.toNat % H) = some r) := by
        refine Lib.hid ?_
        rw [hRi.out, show n + 1 - i = 0 by omega]
        rfl
       have hbase : Hid (utfN s.size s.data.toList 0 = if r < low ∨ 1114111 < r ∨ 55296 ≤ r ∧ r ≤ 57343 then (j : Int) else utfN (s.size - (j + n + 1)) (s.data.toList.drop (j + n + 1)) (j + n + 1)) := by
        refine Lib.hid ?_
        rw [hR.out, hd.out, HC.out, hst]
        simp only [utfN, Hm.out]
        rw [hlen.out, if_neg hsh, HH.out, Int.toNat_natCast, hti.out]
        dsimp only
        split
        ·rfl
        ·rw [List.drop_drop, show j + 1 + n = j + n + 1 by omega]
         exact utfN_fuel _ _ _ _ (by rw [List.length_drop, ← Lib.size_eq]; omega) (by rw [List.length_drop, ← Lib.size_eq]; omega)
       clear hRi hst hR
       by_cases hrr : r < low ∨ 1114111 < r ∨ 55296 ≤ r ∧ r ≤ 57343
       ·have hR' : Hid (utfN s.size s.data.toList 0 = j) := Lib.hid (by rw [hbase.out, if_pos hrr])
        clear hbase
        have hbs : decide ((r : Int) < (low : Int)) = true ∨ decide ((r : Int) < (low : Int)) = false ∧ decide ((1114111 : Int) < (r : Int)) = true ∨ decide ((r : Int) < (low : Int)) = false ∧ decide ((1114111 : Int) < (r : Int)) = false ∧ decide ((55296 : Int) ≤ (r : Int)) = true ∧ decide ((r : Int) ≤ 57343) = true := by
         by_cases k1 : r < low
         ·exact .inl (decide_eq_true (by omega))
         ·by_cases k2 : 1114111 < r
          ·exact .inr (.inl ⟨decide_eq_false (by omega), decide_eq_true (by omega)⟩)
          ·exact .inr (.inr ⟨decide_eq_false (by omega), decide_eq_false (by omega), decide_eq_true (by omega), decide_eq_true (by omega)⟩)
        rcases hbs with c1 | ⟨c1, c2⟩ | ⟨c1, c2, c3, c4⟩
        ·have m1 : decide (r < low) = true := decide_eq_true (by have := of_decide_eq_true c1; omega)
         clear hrr
         go_wp2
         go_ret
         exact ⟨by rw [hR'.out]; rfl, HBi.out⟩
        ·have m1 : decide (r < low) = false := decide_eq_false (by have := of_decide_eq_false c1; omega)
         clear hrr
         go_wp2
         go_ret
         exact ⟨by rw [hR'.out]; rfl, HBi.out⟩
        ·have m1 : decide (r < low) = false := decide_eq_false (by have := of_decide_eq_false c1; omega)
         clear hrr
         go_wp2
         go_ret
         exact ⟨by rw [hR'.out]; rfl, HBi.out⟩
       ·have hR2 : Hid (utfN s.size s.data.toList 0 = utfN (s.size - (j + n + 1)) (s.data.toList.drop (j + n + 1)) (j + n + 1)) := Lib.hid (by rw [hbase.out, if_neg hrr])
        clear hbase
        have c1 : decide ((r : Int) < (low : Int)) = false := decide_eq_false (by omega)
        have m1 : decide (r < low) = false := decide_eq_false (by omega)
        have c2 : decide ((1114111 : Int) < (r : Int)) = false := decide_eq_false (by omega)
        by_cases k3 : 55296 ≤ r
        ·have c3 : decide ((55296 : Int) ≤ (r : Int)) = true := decide_eq_true (by omega)
         have c4 : decide ((r : Int) ≤ 57343) = false := decide_eq_false (by omega)
         clear hrr
         go_wp2
         go_roundg (go - 1)
         case measure => omega
         case rel => exact ⟨j + n + 1, by first | rfl | exact congrArg (Value.int .i64) (by omega) | go_num, by omega, by omega, hR2, HBi.out⟩
        ·have c3 : decide ((55296 : Int) ≤ (r : Int)) = false := decide_eq_false (by omega)
         clear hrr
         go_wp2
         go_roundg (go - 1)
         case measure => omega
         case rel => exact ⟨j + n + 1, by first | rfl | exact congrArg (Value.int .i64) (by omega) | go_num, by omega, by omega, hR2, HBi.out⟩
  ·go_wp2
   go_ret
   refine ⟨?_, HB.out⟩
   rw [hR.out, drop_end s j (by omega)]
   unfold utfN
   rfl
end Go.Proofs.YtahdjajdaggmjaaGreatDoor
end
section
namespace Go.Proofs.YtahdjajdaggmjaaGreatDoor.XPa
noncomputable section
open Go.RowKit Go.Proofs.YtahdjajdaggmjaaGreatDoorW.PrintWords Go.Proofs.YtahdjajdaggmjaaGreatDoorW.PrintLast Go.Proofs.YtahdjajdaggmjaaGreatDoorW.PrintMore
attribute [local go_sem] max2_int min2_int max_two min_two max_three min_three max_four min_four
set_option linter.unusedVariables false
set_option linter.unusedSimpArgs false
theorem eqA113 (d : Nat) (w : World) (x0 y0 : Int) (x1 y1 : Int) :
  (Op.equalIn (d + 2) 113 (.agg #[.int .u32 x0, .int .u32 x1]) (.agg #[.int .u32 y0, .int .u32 y1])).run Tryz.prog w = .ok (x0 == y0 && (x1 == y1)) w := by
 refine eqA_of Tryz.underlying113 (by kernel_rfl) ?_
 refine eqf_cons (by rfl) (by go_simp; rfl) (by go_simp; rfl) (by go_simp) ?_
 exact eqf_last (by rfl) (by go_simp; rfl) (by go_simp; rfl) (by go_simp)
end
end Go.Proofs.YtahdjajdaggmjaaGreatDoor.XPa
end
section
set_option linter.unusedVariables false
namespace Go.Proofs.YtahdjajdaggmjaaGreatDoorW.PrintWords
open Go Go.RowKit Go.Proofs.YtahdjajdaggmjaaGreatDoorW.PrintLast Go.Proofs.YtahdjajdaggmjaaGreatDoorW.PrintMore
theorem tB {p : Prop} (h : p := by repeat (first | (with_reducible first | exact HB.out | apply below_alloc | apply pw_below_drewN | apply below_drew1) | exact HB.out)) : p := h
theorem tBs {p q : Prop} (x : Aside0 q) (h : Aside0 q → p := by intro x_; repeat (first | (with_reducible first | exact HB.out | apply below_alloc | apply pw_below_drewN | apply below_drew1 | refine below_set ?_ x_.out) | exact HB.out)) : p := h x
theorem tKe {p : Prop} (h : p := by repeat (first | (with_reducible first | exact HK.out | apply Kept.alloc | apply Kept.drewN | apply Kept.drew) | exact HK.out)) : p := h
theorem tR {p q : Prop} (x : Aside0 q) (h : Aside0 q → p := by intro x_; (with_reducible repeat (first | apply Kd.R_alloc | apply Kd.R_drewN | apply Kd.R_drew)); exact x_.out) : p := h x
theorem tRm {p q : Prop} (x : Aside0 q) (h : Aside0 q → p := by intro x_; (with_reducible repeat (first | apply Kd.R_alloc | apply Kd.R_drewN | apply Kd.R_drew)); exact Kd.R_mono x_.out (fun _ hk => hk.2)) : p := h x
theorem tN {p q : Prop} (x : Aside0 q) (h : Aside0 q → p := by intro x_; (with_reducible repeat (first | apply Kd.N_alloc | apply Kd.N_drewN | apply Kd.N_drew)); exact x_.out) : p := h x
theorem tK {p q : Prop} (x : Aside0 q) (h : Aside0 q → p := by intro x_; (with_reducible repeat (first | refine blk_drewN ?_ _ | refine blk_drew ?_ | refine blk_alloc ?_ _)); exact x_.out) : p := h x
theorem tA {p : Prop} [Decidable p] (h : decide p = true := by first | (with_reducible assumption) | assumption) : p := of_decide_eq_true h
theorem tM {p : Prop} (h : p := by (try simp only [List.map_toArray, List.map_cons, List.map_nil]); first | done | rfl | (simp only [List.length_drop, List.length_take]; rfl)) : p := h
theorem tS {p : Prop} (h : p := by first | rfl | (simp; done) | (simp [*]; done)) : p := h
theorem tD {p : Prop} (h : p := by repeat (first | exact Drawn0.refl _ | apply Drawn0.step)) : p := h
theorem tE {p : Prop} (h : p := by first | rfl | (simp [errW_none, errW_some] <;> rfl) | (simp [*, errW_none, errW_some] <;> rfl)) : p := h
theorem tZ {p : Prop} (h : p := by first | rfl | (simp; done) | (simp [*]; done) | (generalize ByteArray.toList _ = z_; cases z_ <;> rfl)) : p := h
theorem tc {w w1 : World} {a : Addr} {v : Value} (hb : Aside0 (Below w.heap.size w w1)) (h : w.cell? a = some v) : w1.cell? a = some v := (hb.out.cell (World.block_lt_of_cell? w _ h)).trans h
theorem tCb {p q r : Prop} (x : Aside0 q) (y : Aside0 r) (h : Aside0 q → Aside0 r → p := by intro x_ y_; repeat (first | exact (Kd.C_below x_.out y_.out) | (with_reducible refine Kd.C_alloc ?_ _) | (with_reducible refine Kd.C_drewN ?_ _) | (with_reducible refine Kd.C_drew ?_))) : p := h x y
theorem tCr {p q : Prop} (x : Aside0 q) (h : Aside0 q → p := by intro x_; repeat (first | exact (Kd.R_reads' x_.out).2.2 | (with_reducible refine Kd.C_alloc ?_ _) | (with_reducible refine Kd.C_drewN ?_ _) | (with_reducible refine Kd.C_drew ?_))) : p := h x
theorem tMo {p : Prop} (h : p := by repeat' first | (with_reducible exact ih0 ..) | (with_reducible exact ih1 ..) | (with_reducible exact ih2 ..) | (with_reducible exact ih3 ..) | (with_reducible exact ih4 ..) | (with_reducible exact ih5 ..) | (with_reducible exact ih6 ..) | (with_reducible exact ih7 ..) | (with_reducible exact m0_ ..) | (with_reducible exact m1_ ..) | (with_reducible exact m2_ ..) | (with_reducible exact m3_ ..) | (with_reducible exact m4_ ..) | (with_reducible exact m5_ ..) | (with_reducible exact LeO.refl _) | (with_reducible exact LeO.none _) | (with_reducible refine LeO.ite ?_ ?_) | (with_reducible refine LeO.bind ?_ (fun _ => ?_)) | exact ih0 .. | exact ih1 .. | exact ih2 .. | exact ih3 .. | exact ih4 .. | exact ih5 .. | exact ih6 .. | exact ih7 .. | exact m0_ .. | exact m1_ .. | exact m2_ .. | exact m3_ .. | exact m4_ .. | exact m5_ .. | exact LeO.none _ | refine LeO.ite ?_ ?_ | refine LeO.bind ?_ (fun _ => ?_)) : p := h
section
variable {α β : Type} {c : Prop} [Decidable c] {A B r : Option α} {z : α}
theorem iC (H : (if c then A else B) = r) : (c ∧ A = r) ∨ (¬ c ∧ B = r) := by
 by_cases h : c
 ·exact .inl ⟨h, by rwa [if_pos h] at H⟩
 ·exact .inr ⟨h, by rwa [if_neg h] at H⟩
theorem niC (H : (if c then A else none) = some z) : c ∧ A = some z := by
 rcases iC H with h | ⟨_, h⟩
 ·exact h
 ·exact nomatch h
theorem iDkk (H : (if c then A else B) = r) : (c ∧ decide c = true ∧ A = r) ∨ (¬ c ∧ decide c = false ∧ B = r) := (iC H).imp (fun h => ⟨h.1, decide_eq_true h.1, h.2⟩) (fun h => ⟨h.1, decide_eq_false h.1, h.2⟩)
theorem iD (H : (if c then A else B) = r) : (decide c = true ∧ A = r) ∨ (decide c = false ∧ B = r) := (iDkk H).imp (fun h => h.2) (fun h => h.2)
theorem niD (H : (if c then A else none) = some z) : decide c = true ∧ A = some z := ⟨decide_eq_true (niC H).1, (niC H).2⟩
theorem niT (H : (if c then A else none) = some z) : c = True ∧ decide c = true ∧ A = some z := ⟨eq_true (niC H).1, niD H⟩
theorem iB {b : Bool} (H : (if b = true then A else B) = r) : (b = true ∧ A = r) ∨ (b = false ∧ B = r) := (iC H).imp id (fun h => ⟨Bool.eq_false_iff.mpr h.1, h.2⟩)
theorem iX {x : Option β} {f : β → Option α} (H : x.bind f = some z) : ∃ a, Aside0 (x = some a) ∧ f a = some z := by
 obtain ⟨a, h1, h2⟩ := Option.bind_eq_some_iff.mp H
 exact ⟨a, ⟨h1⟩, h2⟩
end
section
variable {α γ : Type} {A B r : Option α} {z : α} {x y : γ}
theorem iGkk [LE γ] [Decidable (y ≤ x)] (H : (if x ≥ y then A else B) = r) : (x ≥ y ∧ decide (y ≤ x) = true ∧ A = r) ∨ (¬ x ≥ y ∧ decide (y ≤ x) = false ∧ B = r) := iDkk H
theorem iG [LE γ] [Decidable (y ≤ x)] (H : (if x ≥ y then A else B) = r) : (decide (y ≤ x) = true ∧ A = r) ∨ (decide (y ≤ x) = false ∧ B = r) := iD H
theorem iHkk [LT γ] [Decidable (y < x)] (H : (if x > y then A else B) = r) : (x > y ∧ decide (y < x) = true ∧ A = r) ∨ (¬ x > y ∧ decide (y < x) = false ∧ B = r) := iDkk H
theorem iH [LT γ] [Decidable (y < x)] (H : (if x > y then A else B) = r) : (decide (y < x) = true ∧ A = r) ∨ (decide (y < x) = false ∧ B = r) := iD H
theorem iEk [BEq γ] [LawfulBEq γ] [Decidable (x = y)] (H : (if x = y then A else B) = r) : (x = y ∧ (x == y) = true ∧ (x != y) = false ∧ A = r) ∨ (¬ x = y ∧ (x == y) = false ∧ (x != y) = true ∧ B = r) := (iC H).imp (fun h => ⟨h.1, beq_iff_eq.mpr h.1, bne_eq_false_iff_eq.mpr h.1, h.2⟩) (fun h => ⟨h.1, beq_eq_false_iff_ne.mpr h.1, bne_iff_ne.mpr h.1, h.2⟩)
theorem iE [BEq γ] [LawfulBEq γ] [Decidable (x = y)] (H : (if x = y then A else B) = r) : ((x == y) = true ∧ (x != y) = false ∧ A = r) ∨ (¬ x = y ∧ (x == y) = false ∧ (x != y) = true ∧ B = r) := (iEk H).imp (fun h => h.2) id
end
theorem tY {p q r : Prop} (e : q) (H : r) (h : q → r → p := by intro hy_ H; first | (rw [hy_]; with_reducible exact H) | (have H2_ := (Option.bind_some _ _).symm.trans H; rw [hy_]; with_reducible exact H2_) | (have H2_ := (Option.bind_some _ _).symm.trans H; with_reducible exact H2_) | with_reducible exact H | (rw [hy_]; exact H) | exact H) : p := h e H
theorem cz2 {w : World} {g : Nat} {t : TypeId} {a0 a1 : Value} (h : w.heap[g]? = some (.cells #[a0, a1] t (0, 0))) : w.cell? ⟨g, 0, none⟩ = some a0 ∧ w.cell? ⟨g, 1, none⟩ = some a1 ∧ w.frozen? ⟨g, 0, none⟩ = false ∧ w.frozen? ⟨g, 1, none⟩ = false := ⟨blk_cell h 0, blk_cell h 1, blk_frozen h 0, blk_frozen h 1⟩
theorem cz3 {w : World} {g : Nat} {t : TypeId} {a0 a1 a2 : Value} (h : w.heap[g]? = some (.cells #[a0, a1, a2] t (0, 0))) : w.cell? ⟨g, 0, none⟩ = some a0 ∧ w.cell? ⟨g, 1, none⟩ = some a1 ∧ w.cell? ⟨g, 2, none⟩ = some a2 ∧ w.frozen? ⟨g, 0, none⟩ = false ∧ w.frozen? ⟨g, 1, none⟩ = false ∧ w.frozen? ⟨g, 2, none⟩ = false := ⟨blk_cell h 0, blk_cell h 1, blk_cell h 2, blk_frozen h 0, blk_frozen h 1, blk_frozen h 2⟩
theorem cz6 {w : World} {g : Nat} {t : TypeId} {a0 a1 a2 a3 a4 a5 : Value} (h : w.heap[g]? = some (.cells #[a0, a1, a2, a3, a4, a5] t (0, 0))) : w.cell? ⟨g, 0, none⟩ = some a0 ∧ w.cell? ⟨g, 1, none⟩ = some a1 ∧ w.cell? ⟨g, 2, none⟩ = some a2 ∧ w.cell? ⟨g, 3, none⟩ = some a3 ∧ w.cell? ⟨g, 4, none⟩ = some a4 ∧ w.cell? ⟨g, 5, none⟩ = some a5 ∧ w.frozen? ⟨g, 0, none⟩ = false ∧ w.frozen? ⟨g, 1, none⟩ = false ∧ w.frozen? ⟨g, 2, none⟩ = false ∧ w.frozen? ⟨g, 3, none⟩ = false ∧ w.frozen? ⟨g, 4, none⟩ = false ∧ w.frozen? ⟨g, 5, none⟩ = false := ⟨blk_cell h 0, blk_cell h 1, blk_cell h 2, blk_cell h 3, blk_cell h 4, blk_cell h 5, blk_frozen h 0, blk_frozen h 1, blk_frozen h 2, blk_frozen h 3, blk_frozen h 4, blk_frozen h 5⟩
theorem cz13 {w : World} {g : Nat} {t : TypeId} {a0 a1 a2 a3 a4 a5 a6 a7 a8 a9 a10 a11 a12 : Value} (h : w.heap[g]? = some (.cells #[a0, a1, a2, a3, a4, a5, a6, a7, a8, a9, a10, a11, a12] t (0, 0))) : w.cell? ⟨g, 0, none⟩ = some a0 ∧ w.cell? ⟨g, 1, none⟩ = some a1 ∧ w.cell? ⟨g, 2, none⟩ = some a2 ∧ w.cell? ⟨g, 3, none⟩ = some a3 ∧ w.cell? ⟨g, 4, none⟩ = some a4 ∧ w.cell? ⟨g, 5, none⟩ = some a5 ∧ w.cell? ⟨g, 6, none⟩ = some a6 ∧ w.cell? ⟨g, 7, none⟩ = some a7 ∧ w.cell? ⟨g, 8, none⟩ = some a8 ∧ w.cell? ⟨g, 9, none⟩ = some a9 ∧ w.cell? ⟨g, 10, none⟩ = some a10 ∧ w.cell? ⟨g, 11, none⟩ = some a11 ∧ w.cell? ⟨g, 12, none⟩ = some a12 ∧ w.frozen? ⟨g, 0, none⟩ = false ∧ w.frozen? ⟨g, 1, none⟩ = false ∧ w.frozen? ⟨g, 2, none⟩ = false ∧ w.frozen? ⟨g, 3, none⟩ = false ∧ w.frozen? ⟨g, 4, none⟩ = false ∧ w.frozen? ⟨g, 5, none⟩ = false ∧ w.frozen? ⟨g, 6, none⟩ = false ∧ w.frozen? ⟨g, 7, none⟩ = false ∧ w.frozen? ⟨g, 8, none⟩ = false ∧ w.frozen? ⟨g, 9, none⟩ = false ∧ w.frozen? ⟨g, 10, none⟩ = false ∧ w.frozen? ⟨g, 11, none⟩ = false ∧ w.frozen? ⟨g, 12, none⟩ = false := ⟨blk_cell h 0, blk_cell h 1, blk_cell h 2, blk_cell h 3, blk_cell h 4, blk_cell h 5, blk_cell h 6, blk_cell h 7, blk_cell h 8, blk_cell h 9, blk_cell h 10, blk_cell h 11, blk_cell h 12, blk_frozen h 0, blk_frozen h 1, blk_frozen h 2, blk_frozen h 3, blk_frozen h 4, blk_frozen h 5, blk_frozen h 6, blk_frozen h 7, blk_frozen h 8, blk_frozen h 9, blk_frozen h 10, blk_frozen h 11, blk_frozen h 12⟩
theorem slI {w : World} {a : Addr} {A A' : Option Addr} {n n' c c' : Nat} (h : w.cell? a = some (.slice A n c)) (h' : w.cell? a = some (.slice A' n' c')) : A = A' ∧ c = c' := by
 have e := Option.some.inj (h.symm.trans h')
 injection e with e1 e2 e3
 exact ⟨e1, e3⟩
theorem tV {p q : Prop} (x : Aside0 q) (h : Aside0 q → p := by intro x_; (with_reducible repeat (first | apply Kd.V_alloc | apply Kd.V_drewN | apply Kd.V_drew)); exact x_.out) : p := h x
theorem tC {p q : Prop} (x : Aside0 q) (h : Aside0 q → p := by intro x_; repeat (first | (with_reducible exact x_.out) | (with_reducible refine Kd.C_alloc ?_ _) | (with_reducible refine Kd.C_drewN ?_ _) | (with_reducible refine Kd.C_drew ?_) | exact x_.out)) : p := h x
theorem tG {p : Prop} (h : p := by rw [hg]; exact (below_size tB)) : p := h
section
variable {P : Program} {ops : Array Oper} {Q : Exit → Act → World → Prop} {rest : List Oper} {oi : Oper} {a : Act} {w : World} {aS : Array Operand} {ts : Array TypeId}
theorem gd_ (N : Tmp) (_h : oi.dst = some N) (h : wpList P ops Q (oi :: rest) a w) : wpList P ops Q (oi :: rest) a w := h
theorem gf_ (f : FuncId) (_h : oi.op = .call { callee := .value (.func f), args := aS, argTypes := ts }) (h : wpList P ops Q (oi :: rest) a w) : wpList P ops Q (oi :: rest) a w := h
theorem gC_ (N : Option Tmp) {f : FuncId} {fn : Func} (hf : P.funcs[f]? = some fn) (args : Array Value) (h : Calls P f args w fun e w' => ∃ v, e = .returned v ∧ wpList P ops Q rest (a.put N v) w')
  (H_ : oi.op = .call { callee := .value (.func f), args := aS, argTypes := ts } ∧ oi.dst = N ∧ oi.guard = none ∧ (fn.name == "runtime.NumGoroutine") = false ∧ fn.body.isSome = true ∧ aS.map a.eval = args := by (refine ⟨?_, ?_⟩; (with_reducible rfl); refine ⟨rfl, rfl, by kernel_rfl, rfl, ?_⟩; exact tM)) : wpList P ops Q (oi :: rest) a w := goesL_ N H_.2.1 H_.2.2.1 hf H_.2.2.2.1 H_.2.2.2.2.1 args H_.1 H_.2.2.2.2.2 h
theorem boxE (N : Tmp) (cs : Array Value) (t : TypeId) (h : ∀ g, g = w.heap.size → ∀ w1, w1.heap[g]? = some (.cells cs t (0, 0)) → Below w.heap.size w w1 → wpList P ops Q rest (a.put oi.dst (.pointer (some ⟨g, 0, none⟩))) w1)
  (H_ : oi.dst = some N ∧ oi.guard = none ∧ (execOp a.eval oi).run P w = .ok (.value (.pointer (some ⟨w.heap.size, 0, none⟩))) (w.alloc (.cells cs t (0, 0))) := by (refine ⟨?_, ?_, ?_⟩; (with_reducible rfl); rfl; first | (go_simp; done) | (go_simp; rfl))) : wpList P ops Q (oi :: rest) a w := box_event H_.2.1 H_.1 H_.2.2 h
end
theorem blk_putE {w : World} {g i : Nat} {t : TypeId} {cs : Array Value} {v : Value} (h : w.heap[g]? = some (.cells cs t (0, 0))) : (w.setCell ⟨g, i, none⟩ v).heap[g]? = some (.cells (cs.setIfInBounds i v) t (0, 0)) := blk_put h i v rfl
theorem tPt {q : Prop} {W : World} {g : Nat} {t : TypeId} {cs cs' : Array Value} (x : Aside0 q) (h : Aside0 q → W.heap[g]? = some (.cells cs t (0, 0)) := by intro x_; (repeat (first | (with_reducible apply blk_putE) | (with_reducible refine blk_drewN ?_ _) | (with_reducible refine blk_drew ?_) | (with_reducible refine blk_alloc ?_ _))); exact x_.out) (he : cs = cs' := by first | (simp only [List.setIfInBounds_toArray, List.set_cons_zero, List.set_cons_succ]; done) | rfl) : W.heap[g]? = some (.cells cs' t (0, 0)) := he ▸ h x
section
variable {α : Type} {d : Kd α} {t : TypeId} {w W : World} {base : Nat} {ok : Nat → Prop} {v : Value} {xs : List α}
theorem tNf (x : d.N t w base ok v xs) (h : d.N t w base ok v xs → d.N t W base ok v xs := by intro x_; (repeat (first | (with_reducible refine Kd.N_alloc ?_ _) | (with_reducible refine Kd.N_drewN ?_ _) | (with_reducible refine Kd.N_drew ?_) | refine Kd.N_far ?_ (fun _ hk => hk.2) _)); exact x_) : d.N t W base ok v xs := h x
theorem tVf (x : d.V t w base ok v xs) (h : d.V t w base ok v xs → d.V t W base ok v xs := by intro x_; (repeat (first | (with_reducible refine Kd.V_alloc ?_ _) | (with_reducible refine Kd.V_drewN ?_ _) | (with_reducible refine Kd.V_drew ?_) | refine Kd.V_far ?_ (fun _ hk => hk.2) _)); exact x_) : d.V t W base ok v xs := h x
theorem tRf (x : d.R t w base ok v xs) (h : d.R t w base ok v xs → d.R t W base ok v xs := by intro x_; (repeat (first | (with_reducible refine Kd.R_alloc ?_ _) | (with_reducible refine Kd.R_drewN ?_ _) | (with_reducible refine Kd.R_drew ?_) | refine Kd.R_far ?_ (fun _ hk => hk.2) _)); exact x_) : d.R t W base ok v xs := h x
end
theorem zz0 {p : Prop} (h_ : p := by go_wp2; go_ret; exact ⟨tS, tD⟩) : p := h_
theorem zz1 {p : Prop} (h_ : p := by have H' := Aside0.mk H; clear H; go_wp2; (repeat (go_quiet (fail); try go_wp2)); go_meet; (case rel => exact ⟨_, H', ⟨by first | omega | exact Nat.le_refl _⟩, tD⟩)) : p := h_
theorem zz2 {p : Prop} (h_ : p := by obtain rfl := Option.some.inj H; go_wp2; (repeat (go_quiet (fail); try go_wp2)); go_ret; exact ⟨tZ, tD⟩) : p := h_
theorem zz3 {p : Prop} (h_ : p := by go_wp2; go_ret3; exact ⟨_, tE, by first | exact Kd.R_nil _ _ _ _ _ | exact Kd.N_nil _ _ _ _ _ | exact Kd.V_nil _ _ _ _ _ | exact Kd.Q_nil _ _ _ _ _ | exact Kd.S_nil _ _ _ _ _, tB⟩) : p := h_
theorem zz4 {p : Prop} (h_ : p := by have H' := Aside0.mk H; clear H; have p13 : 0 ≤ (x7_1 : Int) := tA; have q13 : x7_1 < (a0.size : Int) := tA; have hx13 := bt_at a0 x7_1; replace p13 := eq_true p13; replace q13 := eq_true q13; go_wp2; go_meet; (case rel => exact ⟨_, (false), tS, H', ⟨by have := HK1.out; first | omega | exact Nat.le_refl _⟩, ⟨tR HO_6⟩, ⟨tB⟩⟩)) : p := h_
theorem zz5 {p : Prop} (h_ : p := by obtain rfl := Option.some.inj H; go_wp2; go_ret; exact ⟨tS, tD⟩) : p := h_
theorem zz6 {p : Prop} (h_ : p := by have H' := Aside0.mk H; clear H; go_wp2; go_meet; (case rel => exact ⟨_, (false), tS, H', ⟨by have := HK1.out; first | omega | exact Nat.le_refl _⟩, tD⟩)) : p := h_
theorem zz7 {p : Prop} (h_ : p := by have H' := Aside0.mk H; clear H; go_wp2; go_roundg kj4; (case measure => have := HK1.out; have := HJ4.out; omega); (case rel => exact ⟨(wrap64 (x3_1 + 1)), tS, H', ⟨by have := HK1.out; have := HJ4.out; omega⟩, tD⟩)) : p := h_
theorem zz8 {p : Prop} (h_ : p := by obtain rfl := Option.some.inj H; go_wp2; (repeat (go_quiet (fail); try go_wp2)); go_ret; exact ⟨tS, tD⟩) : p := h_
theorem zz9 {p : Prop} (h_ : p := by obtain rfl := Option.some.inj H; go_wp2; go_ret; exact ⟨_, tE, by (with_reducible repeat (first | apply Kd.R_alloc | apply Kd.R_drewN | apply Kd.R_drew)); exact HO_3.out, tB⟩) : p := h_
theorem zz10 {p : Prop} (h_ : p := by have H' := Aside0.mk H; clear H; go_wp2; go_meet; (case rel => exact ⟨_, (false), tS, H', ⟨by first | omega | exact Nat.le_refl _⟩, tD⟩)) : p := h_
theorem zz11 {p : Prop} (h_ : p := by have H' := Aside0.mk H; clear H; go_wp2; go_meet; (case rel => exact ⟨_, ((a0 == 7)), tS, H', ⟨by first | omega | exact Nat.le_refl _⟩, tD⟩)) : p := h_
theorem zz12 {p : Prop} (h_ : p := by simp only [Option.some.injEq, Prod.mk.injEq] at H; obtain ⟨rfl, rfl⟩ := H; go_wp2; go_ret2; exact ⟨tS, tD⟩) : p := h_
theorem zz13 {p : Prop} (h_ : p := by have H' := Aside0.mk H; clear H; go_wp2; go_meet; (case rel => exact ⟨_, (false), tS, H', ⟨by have := HJ2.out; first | omega | exact Nat.le_refl _⟩, tD⟩)) : p := h_
theorem zz14 {p : Prop} (h_ : p := by have H' := Aside0.mk H; clear H; go_wp2; go_meet; (case rel => exact ⟨_, (true), tS, H', ⟨by have := HJ2.out; first | omega | exact Nat.le_refl _⟩, tD⟩)) : p := h_
theorem zz15 {p : Prop} (h_ : p := by have H' := Aside0.mk H; clear H; go_wp2; go_meet; (case rel => exact ⟨_, (true), tS, H', ⟨by first | omega | exact Nat.le_refl _⟩, ⟨tK BK293⟩, ⟨tBs GE293⟩⟩)) : p := h_
theorem zz16 {p : Prop} (h_ : p := by obtain rfl := Option.some.inj H; go_wp2; go_ret; exact ⟨tE, by repeat (first | (with_reducible first | exact HB.out | apply below_alloc | apply pw_below_drewN | apply below_drew1 | refine below_set ?_ GE101.out) | exact HB.out)⟩) : p := h_
theorem zz17 {p : Prop} (h_ : p := by have H' := Aside0.mk H; clear H; have hcz := cz6 BK101.out; go_wp2; go_meet; (case rel => exact ⟨_, (x5_2), tS, H', ⟨by have := HJ2.out; have := HK2.out; first | omega | exact Nat.le_refl _⟩, ⟨tK BK101⟩, ⟨tBs GE101⟩⟩)) : p := h_
theorem zz18 {p : Prop} (h_ : p := by have H' := Aside0.mk H; clear H; have hcz := cz6 BK101.out; obtain ⟨p106, q106, ad106, A106_0, c106_0, A106_1, c106_1, e106, hx106_0, hx106_1, HC106_0, HR106_0, HC106_1, HR106_1⟩ := at_B90 HR0_5 HB x7_3; obtain rfl : ad104 = ad106 := (by injection e106); go_wp2; go_roundg k5; (case measure => have := HJ2.out; have := HJ8.out; have := HK3.out; have := HJ18.out; have := HK5.out; omega); (case rel => exact ⟨(x5_5), (wrap64 (x7_3 + 1)), tS, tS, H', ⟨by have := HJ2.out; have := HJ8.out; have := HK3.out; have := HJ18.out; have := HK5.out; omega⟩, ⟨tK BK101⟩, ⟨tBs GE101⟩⟩)) : p := h_
theorem zz19 {p : Prop} (h_ : p := by have H' := Aside0.mk H; clear H; go_wp2; go_meet; (case rel => exact ⟨_, H', ⟨by have := HJ3.out; first | omega | exact Nat.le_refl _⟩, tD⟩)) : p := h_
theorem zz20 {p : Prop} (h_ : p := by have H' := Aside0.mk H; clear H; have p5 : 0 ≤ (x8_1 : Int) := tA; have q5 : x8_1 < (a0.size : Int) := tA; have hx5 := bt_at a0 x8_1; replace p5 := eq_true p5; replace q5 := eq_true q5; go_wp2; go_roundg k1; (case measure => have := HK1.out; omega); (case rel => exact ⟨(wrap64 (x8_1 + 1)), tZ, H', ⟨by have := HK1.out; omega⟩, tD⟩)) : p := h_
theorem zz21 {p : Prop} (h_ : p := by obtain rfl := Option.some.inj H; have p5 : 0 ≤ (x8_1 : Int) := tA; have q5 : x8_1 < (a0.size : Int) := tA; have hx5 := bt_at a0 x8_1; replace p5 := eq_true p5; replace q5 := eq_true q5; go_wp2; go_ret; exact ⟨tZ, tD⟩) : p := h_
theorem zz22 {p : Prop} (h_ : p := by have H' := Aside0.mk H; clear H; go_wp2; go_meet; (case rel => exact ⟨_, (true), tS, H', ⟨by first | omega | exact Nat.le_refl _⟩, ⟨tK BK171⟩, ⟨tBs GE171⟩⟩)) : p := h_
end Go.Proofs.YtahdjajdaggmjaaGreatDoorW.PrintWords
end
section
set_option linter.unusedVariables false
namespace Go.Proofs.YtahdjajdaggmjaaGreatDoor.XPa
open Go.RowKit Go.Proofs.YtahdjajdaggmjaaGreatDoorW.PrintWords Go.Proofs.YtahdjajdaggmjaaGreatDoorW.PrintLast Go.Proofs.YtahdjajdaggmjaaGreatDoorW.PrintMore
theorem at_B49 {w w1 : World} {A : Option Addr} {n : Nat} {xs : List S49} (h : Aside0 (Kd.C k49 w A n xs)) (hb : Aside0 (Below w.heap.size w w1)) (i : Int) (h0 : 0 ≤ i := by exact tA) (h1 : i < n := by exact tA) : (0 ≤ i) = True ∧ (i < n) = True ∧ ∃ ad A3 c3 A4 c4 A5 c5, A = some ad ∧ w1.cell? (ad.add (i.toNat * 6)) = some (.int .i64 (rd_T49 xs i).f0) ∧ w1.cell? ⟨(ad.add (i.toNat * 6)).block, (ad.add (i.toNat * 6)).off + 1, none⟩ = some (.int .i64 (rd_T49 xs i).f1) ∧ w1.cell? ⟨(ad.add (i.toNat * 6)).block, (ad.add (i.toNat * 6)).off + 2, none⟩ = some (.string (rd_T49 xs i).f2) ∧ w1.cell? ⟨(ad.add (i.toNat * 6)).block, (ad.add (i.toNat * 6)).off + 3, none⟩ = some (.slice A3 (rd_T49 xs i).f3.length c3) ∧ w1.cell? ⟨(ad.add (i.toNat * 6)).block, (ad.add (i.toNat * 6)).off + 4, none⟩ = some (.slice A4 (rd_T49 xs i).f4.length c4) ∧ w1.cell? ⟨(ad.add (i.toNat * 6)).block, (ad.add (i.toNat * 6)).off + 5, none⟩ = some (.slice A5 (rd_T49 xs i).f5.length c5) ∧ Aside0 ((rd_T49 xs i).f3.length ≤ c3) ∧ Aside0 (k113.C w A3 (rd_T49 xs i).f3.length (rd_T49 xs i).f3) ∧ Aside0 ((rd_T49 xs i).f4.length ≤ c4) ∧ Aside0 (k49.C w A4 (rd_T49 xs i).f4.length (rd_T49 xs i).f4) ∧ Aside0 ((rd_T49 xs i).f5.length ≤ c5) ∧ Aside0 (k90.C w A5 (rd_T49 xs i).f5.length (rd_T49 xs i).f5) := by
 obtain ⟨ad, A3, c3, A4, c4, A5, c5, e, g0, g1, g2, g3, g4, g5, g6, g7, g8, g9, g10, g11⟩ := at_T49 h.out i h0 h1
 exact ⟨eq_true h0, eq_true h1, ad, A3, c3, A4, c4, A5, c5, e, tc hb g0, tc hb g1, tc hb g2, tc hb g3, tc hb g4, tc hb g5, ⟨g6⟩, ⟨g7⟩, ⟨g8⟩, ⟨g9⟩, ⟨g10⟩, ⟨g11⟩⟩
theorem at_B51 {w w1 : World} {A : Option Addr} {n : Nat} {xs : List S51} (h : Aside0 (Kd.C k51 w A n xs)) (hb : Aside0 (Below w.heap.size w w1)) (i : Int) (h0 : 0 ≤ i := by exact tA) (h1 : i < n := by exact tA) : (0 ≤ i) = True ∧ (i < n) = True ∧ ∃ ad A4 c4 A5 c5 A6 c6 A10 c10 A11 c11 A12 c12, A = some ad ∧ w1.cell? (ad.add (i.toNat * 13)) = some (.string (rd_T51 xs i).f0) ∧ w1.cell? ⟨(ad.add (i.toNat * 13)).block, (ad.add (i.toNat * 13)).off + 1, none⟩ = some (.int .i64 (rd_T51 xs i).f1.f0) ∧ w1.cell? ⟨(ad.add (i.toNat * 13)).block, (ad.add (i.toNat * 13)).off + 2, none⟩ = some (.int .i64 (rd_T51 xs i).f1.f1) ∧ w1.cell? ⟨(ad.add (i.toNat * 13)).block, (ad.add (i.toNat * 13)).off + 3, none⟩ = some (.string (rd_T51 xs i).f1.f2) ∧ w1.cell? ⟨(ad.add (i.toNat * 13)).block, (ad.add (i.toNat * 13)).off + 4, none⟩ = some (.slice A4 (rd_T51 xs i).f1.f3.length c4) ∧ w1.cell? ⟨(ad.add (i.toNat * 13)).block, (ad.add (i.toNat * 13)).off + 5, none⟩ = some (.slice A5 (rd_T51 xs i).f1.f4.length c5) ∧ w1.cell? ⟨(ad.add (i.toNat * 13)).block, (ad.add (i.toNat * 13)).off + 6, none⟩ = some (.slice A6 (rd_T51 xs i).f1.f5.length c6) ∧ w1.cell? ⟨(ad.add (i.toNat * 13)).block, (ad.add (i.toNat * 13)).off + 7, none⟩ = some (.int .i64 (rd_T51 xs i).f2.f0) ∧ w1.cell? ⟨(ad.add (i.toNat * 13)).block, (ad.add (i.toNat * 13)).off + 8, none⟩ = some (.int .i64 (rd_T51 xs i).f2.f1) ∧ w1.cell? ⟨(ad.add (i.toNat * 13)).block, (ad.add (i.toNat * 13)).off + 9, none⟩ = some (.string (rd_T51 xs i).f2.f2) ∧ w1.cell? ⟨(ad.add (i.toNat * 13)).block, (ad.add (i.toNat * 13)).off + 10, none⟩ = some (.slice A10 (rd_T51 xs i).f2.f3.length c10) ∧ w1.cell? ⟨(ad.add (i.toNat * 13)).block, (ad.add (i.toNat * 13)).off + 11, none⟩ = some (.slice A11 (rd_T51 xs i).f2.f4.length c11) ∧ w1.cell? ⟨(ad.add (i.toNat * 13)).block, (ad.add (i.toNat * 13)).off + 12, none⟩ = some (.slice A12 (rd_T51 xs i).f2.f5.length c12) ∧ Aside0 ((rd_T51 xs i).f1.f3.length ≤ c4) ∧ Aside0 (k113.C w A4 (rd_T51 xs i).f1.f3.length (rd_T51 xs i).f1.f3) ∧ Aside0 ((rd_T51 xs i).f1.f4.length ≤ c5) ∧ Aside0 (k49.C w A5 (rd_T51 xs i).f1.f4.length (rd_T51 xs i).f1.f4) ∧ Aside0 ((rd_T51 xs i).f1.f5.length ≤ c6) ∧ Aside0 (k90.C w A6 (rd_T51 xs i).f1.f5.length (rd_T51 xs i).f1.f5) ∧ Aside0 ((rd_T51 xs i).f2.f3.length ≤ c10) ∧ Aside0 (k113.C w A10 (rd_T51 xs i).f2.f3.length (rd_T51 xs i).f2.f3) ∧ Aside0 ((rd_T51 xs i).f2.f4.length ≤ c11) ∧ Aside0 (k49.C w A11 (rd_T51 xs i).f2.f4.length (rd_T51 xs i).f2.f4) ∧ Aside0 ((rd_T51 xs i).f2.f5.length ≤ c12) ∧ Aside0 (k90.C w A12 (rd_T51 xs i).f2.f5.length (rd_T51 xs i).f2.f5) := by
 obtain ⟨ad, A4, c4, A5, c5, A6, c6, A10, c10, A11, c11, A12, c12, e, g0, g1, g2, g3, g4, g5, g6, g7, g8, g9, g10, g11, g12, g13, g14, g15, g16, g17, g18, g19, g20, g21, g22, g23, g24⟩ := at_T51 h.out i h0 h1
 exact ⟨eq_true h0, eq_true h1, ad, A4, c4, A5, c5, A6, c6, A10, c10, A11, c11, A12, c12, e, tc hb g0, tc hb g1, tc hb g2, tc hb g3, tc hb g4, tc hb g5, tc hb g6, tc hb g7, tc hb g8, tc hb g9, tc hb g10, tc hb g11, tc hb g12, ⟨g13⟩, ⟨g14⟩, ⟨g15⟩, ⟨g16⟩, ⟨g17⟩, ⟨g18⟩, ⟨g19⟩, ⟨g20⟩, ⟨g21⟩, ⟨g22⟩, ⟨g23⟩, ⟨g24⟩⟩
theorem at_B90 {w w1 : World} {A : Option Addr} {n : Nat} {xs : List S90} (h : Aside0 (Kd.C k90 w A n xs)) (hb : Aside0 (Below w.heap.size w w1)) (i : Int) (h0 : 0 ≤ i := by exact tA) (h1 : i < n := by exact tA) : (0 ≤ i) = True ∧ (i < n) = True ∧ ∃ ad A0 c0 A1 c1, A = some ad ∧ w1.cell? (ad.add (i.toNat * 2)) = some (.slice A0 (rd_T90 xs i).f0.length c0) ∧ w1.cell? ⟨(ad.add (i.toNat * 2)).block, (ad.add (i.toNat * 2)).off + 1, none⟩ = some (.slice A1 (rd_T90 xs i).f1.length c1) ∧ Aside0 ((rd_T90 xs i).f0.length ≤ c0) ∧ Aside0 (k113.C w A0 (rd_T90 xs i).f0.length (rd_T90 xs i).f0) ∧ Aside0 ((rd_T90 xs i).f1.length ≤ c1) ∧ Aside0 (k49.C w A1 (rd_T90 xs i).f1.length (rd_T90 xs i).f1) := by
 obtain ⟨ad, A0, c0, A1, c1, e, g0, g1, g2, g3, g4, g5⟩ := at_T90 h.out i h0 h1
 exact ⟨eq_true h0, eq_true h1, ad, A0, c0, A1, c1, e, tc hb g0, tc hb g1, ⟨g2⟩, ⟨g3⟩, ⟨g4⟩, ⟨g5⟩⟩
theorem at_B113 {w w1 : World} {A : Option Addr} {n : Nat} {xs : List S113} (h : Aside0 (Kd.C k113 w A n xs)) (hb : Aside0 (Below w.heap.size w w1)) (i : Int) (h0 : 0 ≤ i := by exact tA) (h1 : i < n := by exact tA) : (0 ≤ i) = True ∧ (i < n) = True ∧ ∃ ad , A = some ad ∧ w1.cell? (ad.add (i.toNat * 2)) = some (.int .u32 (rd_T113 xs i).f0) ∧ w1.cell? ⟨(ad.add (i.toNat * 2)).block, (ad.add (i.toNat * 2)).off + 1, none⟩ = some (.int .u32 (rd_T113 xs i).f1) := by
 obtain ⟨ad, e, g0, g1⟩ := at_T113 h.out i h0 h1
 exact ⟨eq_true h0, eq_true h1, ad, e, tc hb g0, tc hb g1⟩
end Go.Proofs.YtahdjajdaggmjaaGreatDoor.XPa
end
