/-
Walk: hypercuberef10.Kids (an array of numbers written out, laid into memory).
-/
import Derived.Deep.WholeRow
import Derived.Laws.Tables
import Derived.Test.YtahdjajdaggmjaaGreatDoorUtab
import Derived.Test.YtahdjajdaggmjaaGreatDoorSortLay
import Derived.Laws.Rows
import Derived.BigQuiet
import Derived.Deep.CutRange
import Derived.Test.YtahdjajdaggmjaaGreatDoorFc
import Derived.Test.YtahdjajdaggmjaaGreatDoorWLast
import Derived.Test.YtahdjajdaggmjaaGreatDoorWWords
import Derived.Laws.StructEq
section
namespace Go.Proofs.YtahdjajdaggmjaaGreatDoor
open Go.RowKit
theorem wpList_build_as {P : Program} {ops : Array Oper} {rest : List Oper} {o : Oper} {a : Act} {w : World} {Q : Exit → Act → World → Prop} (hg : o.guard = none) (t : TypeId) (parts : Array (Nat × Operand)) (ho : o.op = .build t parts) (cells : Array Value)
  (hf : P.built t (parts.map fun (i, x) => (i, a.eval x)).toList = some cells)
  (h : wpList P ops Q rest (a.put o.dst (.agg cells)) w) : wpList P ops Q (o :: rest) a w := by
 refine wpList_build hg t parts ho (by rw [hf]; rfl) ?_
 rw [hf]
 exact h
theorem wpList_store_new {P : Program} {ops : Array Oper} {rest : List Oper} {o : Oper} {a : Act} {w0 : World} {Q : Exit → Act → World → Prop} (hgd : o.guard = none) (ty : TypeId) (x y : Operand) (ho : o.op = .store ty x y)
  (cells old : Array Value) (hx : a.eval x = .pointer (some ⟨w0.heap.size, 0, none⟩)) (hy : a.eval y = .agg cells) (hi : (P.info? ty).map (·.size) = some cells.size)
  (hold : old.size = cells.size) (h1 : cells.all (·.oneCell') = true)
  (h : wpList P ops Q rest (a.put o.dst undef) (w0.alloc (.cells cells ty))) : wpList P ops Q (o :: rest) a (w0.alloc (.cells old ty)) := by
 refine wpList_store_row hgd ty x y ho w0.heap.size cells hx hy ty old (heap_alloc_last w0 _) hi hold h1 ?_
 rw [World.setRow_alloc_new]
 exact h
def kidTab : List Int := [-1, 0, 0, 0, 2, 1, 2, 2, 2, 1, 1, 3, 1, 3, 2, 2, 1, 1, 1, 0, 0, 0, 4, 1, 0, 0, 1, 5, 2]
def kidArr : Array Value := (kidTab.map (Value.int .i64)).toArray
def kidsI (k : Int) : Int := if k < 0 ∨ 28 < k then -1 else kidTab.getD k.toNat 0
theorem kidArr_at (i : Nat) (h : i < 29) : kidArr[i]? = some (.int .i64 (kidTab.getD i 0)) := by
 unfold kidArr
 rw [List.getElem?_toArray, List.getElem?_map, List.getD_eq_getElem?_getD, List.getElem?_eq_getElem (show i < kidTab.length from h)]
 rfl
set_option maxRecDepth 100000 in
set_option maxHeartbeats 4000000 in
theorem ref10_Kids_in (n : Nat) (w : World) (h : n < 29) (z : Int) (hz : Hid (kidTab.getD n 0 = z)) :
  Calls Tryz.prog 63 #[.int .i64 (n : Int)] w fun e w' => e = .returned (.int .i64 z) ∧ Below w.heap.size w w' := by
 have hc : (w.alloc (.cells kidArr 130)).cell? ⟨w.heap.size, n, none⟩ = some (.int .i64 z) := by
  rw [cell_of_row _ _ n kidArr _ (0, 0) (heap_alloc_last w _), kidArr_at n h, hz.out]
 go_enter Tryz.func63, Tryz.ntmps63
 go_wp2_with (first
  | (refine wpList_build_as rfl 130 _ rfl kidArr (by kernel_rfl) ?_)
  | (refine wpList_store_new rfl 130 _ _ rfl kidArr _ rfl rfl (by kernel_rfl) (by kernel_rfl) (by kernel_rfl) ?_))
 go_ret
 exact ⟨rfl, (Below.refl _ _).alloc (Nat.le_refl _) _⟩
set_option maxRecDepth 100000 in
set_option maxHeartbeats 4000000 in
theorem ref10_Kids_neg (n : Int) (w : World) (h : n < 0) :
  Calls Tryz.prog 63 #[.int .i64 n] w fun e w' => e = .returned (.int .i64 (-1)) ∧ Below w.heap.size w w' := by
 go_enter Tryz.func63, Tryz.ntmps63
 go_wp2_with (first
  | (refine wpList_build_as rfl 130 _ rfl kidArr (by kernel_rfl) ?_)
  | (refine wpList_store_new rfl 130 _ _ rfl kidArr _ rfl rfl (by kernel_rfl) (by kernel_rfl) (by kernel_rfl) ?_))
 go_ret
 exact ⟨rfl, (Below.refl _ _).alloc (Nat.le_refl _) _⟩
set_option maxRecDepth 100000 in
set_option maxHeartbeats 4000000 in
theorem ref10_Kids_over (n : Int) (w : World) (h0 : ¬ n < 0) (h : 28 < n) :
  Calls Tryz.prog 63 #[.int .i64 n] w fun e w' => e = .returned (.int .i64 (-1)) ∧ Below w.heap.size w w' := by
 go_enter Tryz.func63, Tryz.ntmps63
 go_wp2_with (first
  | (refine wpList_build_as rfl 130 _ rfl kidArr (by kernel_rfl) ?_)
  | (refine wpList_store_new rfl 130 _ _ rfl kidArr _ rfl rfl (by kernel_rfl) (by kernel_rfl) (by kernel_rfl) ?_))
 go_ret
 exact ⟨rfl, (Below.refl _ _).alloc (Nat.le_refl _) _⟩
theorem ref10_Kids (k : Int) (w : World) :
  Calls Tryz.prog 63 #[.int .i64 k] w fun e w' => e = .returned (.int .i64 (kidsI k)) ∧ Below w.heap.size w w' := by
 unfold kidsI
 by_cases h : k < 0
 ·rw [if_pos (Or.inl h)]
  exact ref10_Kids_neg k w h
 ·by_cases h2 : 28 < k
  ·rw [if_pos (Or.inr h2)]
   exact ref10_Kids_over k w h h2
  ·rw [if_neg (by omega)]
   have := ref10_Kids_in k.toNat w (by omega) _ (Lib.hid rfl)
   rw [show ((k.toNat : Nat) : Int) = k by omega] at this
   exact this
def skip : Bool → List UInt8 → Nat
 | _, [] => 0
 | true, c :: t => if c = 10 then 1 + skip false t else 1 + skip true t
 | false, c :: t => if c = 32 ∨ c = 9 ∨ c = 10 ∨ c = 13 then 1 + skip false t else if c = 45 ∧ t.head? = some 45 then 1 + skip true t else 0
theorem ne_lit {c : UInt8} (n : Nat) (h : ¬ c = UInt8.ofNat n) : (((c.toNat : Nat) : Int) == (n : Int)) = false := by
 rw [Bool.eq_false_iff]
 intro h2
 apply h
 have h3 : c.toNat = n := Int.ofNat_inj.1 (eq_of_beq h2)
 rw [← h3, UInt8.ofNat_toNat]
theorem skip_le : ∀ (b : Bool) (l : List UInt8), skip b l ≤ l.length
 | _, [] => by simp [skip]
 | true, c :: t => by
  have h1 := skip_le false t
  have h2 := skip_le true t
  unfold skip
  split <;> simp <;> omega
 | false, c :: t => by
  have h1 := skip_le false t
  have h2 := skip_le true t
  unfold skip
  split
  ·simp; omega
  ·split <;> simp <;> omega
theorem drop_bt (s : ByteArray) (i : Nat) (h : i < s.size) : s.data.toList.drop i = s[i] :: s.data.toList.drop (i + 1) := by
 have h' : i < s.data.toList.length := by rw [← Lib.size_eq]; exact h
 rw [List.drop_eq_getElem_cons h']
 rfl
theorem drop_end (s : ByteArray) (i : Nat) (h : s.size ≤ i) : s.data.toList.drop i = [] := by
 apply List.drop_eq_nil_of_le
 rw [← Lib.size_eq]
 exact h
theorem hpre_two (s : ByteArray) (i : Nat) (h : i < s.size) (hc : s[i] = 45) : hpre (s.extract i s.size) ⟨#[45, 45]⟩ = decide ((s.data.toList.drop (i + 1)).head? = some 45) := by
 have e : (s.extract i s.size).data.toList = s.data.toList.drop i := Lib.extract_to_end s i
 unfold hpre
 rw [e, drop_bt s i h, hc]
 cases s.data.toList.drop (i + 1) with
 | nil => simp [List.isPrefixOf]
 | cons x t =>
  show (45 == (45 : UInt8) && (45 == x && true)) = decide (some x = some 45)
  by_cases h : x = 45
  ·subst h
   rfl
  ·rw [decide_eq_false (fun h2 => h (Option.some.inj h2))]
   show (true && ((45 == x) && true)) = false
   rw [Bool.and_true, Bool.true_and]
   exact beq_eq_false_iff_ne.2 (fun h2 => h h2.symm)
set_option maxRecDepth 100000 in
set_option maxHeartbeats 4000000 in
theorem le_past1 (HP : ∀ (a b : ByteArray) (w : World), Calls Tryz.prog 90 #[.string a, .string b] w fun e w' => e = .returned (.bool (hpre a b)) ∧ Below w.heap.size w w')
  (s : ByteArray) (n : Nat) (w : World) (hs : s.size ≤ 1000000) (hn : n ≤ s.size) :
  Calls Tryz.prog 73 #[.string s, .int .i64 n] w fun e w' => e = .returned (.int .i64 ((n + skip false (s.data.toList.drop n) : Nat) : Int)) ∧ Below w.heap.size w w' := by
 have HP' := Lib.hid HP
 clear HP
 go_enter Tryz.func73, Tryz.ntmps73
 go_wp2
 go_step3
 go_wp2
 go_step3
 go_wp2
 go_loopg [1] (s.size + 1) (fun kq v1 w' => ∃ j : Nat, v1 = .int .i64 (j : Int) ∧ j ≤ s.size ∧ s.size < kq + j ∧ Hid (n + skip false (s.data.toList.drop n) = j + skip false (s.data.toList.drop j)) ∧ Below w.heap.size w w')
 case atStart => exact ⟨n, rfl, hn, by omega, Lib.hid rfl, Below.refl _ _⟩
 case round =>
  obtain ⟨j, rfl, hj, hk, hR, hb⟩ := hrel
  have HB := Lib.hid hb
  clear hb
  by_cases hlt : j < s.size
  ·have hd := Lib.hid (drop_bt s j hlt)
   have hc : ∃ c : UInt8, s[j] = c := ⟨_, rfl⟩
   obtain ⟨c, hc⟩ := hc
   have HC := Lib.hid hc
   have hx : ((s[j]'hlt).toNat : Int) = (c.toNat : Int) := by rw [hc]
   clear hc
   have hjw : IntKind.i64.wrap ((j : Int) + 1) = ((j + 1 : Nat) : Int) := by rw [IntKind.wrap_i64]; omega
   by_cases hbl : c = 32 ∨ c = 9 ∨ c = 10 ∨ c = 13
   ·have hR' : Hid (n + skip false (s.data.toList.drop n) = (j + 1) + skip false (s.data.toList.drop (j + 1))) := by
     refine Lib.hid ?_
     rw [hR.out, hd.out, HC.out]
     simp only [skip, if_pos hbl]
     omega
    clear hR
    rcases hbl with rfl | rfl | rfl | rfl
    all_goals
     go_wp2
     go_roundg (gk - 1)
     case measure => omega
     case rel => exact ⟨j + 1, by simp, by omega, by omega, hR', HB.out⟩
   ·have e32 : (((c.toNat : Nat) : Int) == 32) = false := ne_lit 32 (fun h => hbl (Or.inl h))
    have e9 : (((c.toNat : Nat) : Int) == 9) = false := ne_lit 9 (fun h => hbl (Or.inr (Or.inl h)))
    have e10 : (((c.toNat : Nat) : Int) == 10) = false := ne_lit 10 (fun h => hbl (Or.inr (Or.inr (Or.inl h))))
    have e13 : (((c.toNat : Nat) : Int) == 13) = false := ne_lit 13 (fun h => hbl (Or.inr (Or.inr (Or.inr h))))
    by_cases h45 : c = 45
    ·subst h45
     have hP := hpre_two s j hlt HC.out
     by_cases hn2 : (s.data.toList.drop (j + 1)).head? = some 45
     ·rw [decide_eq_true hn2] at hP
      have hR' : Hid (n + skip false (s.data.toList.drop n) = j + skip true (s.data.toList.drop j)) := by
       refine Lib.hid ?_
       rw [hR.out, hd.out, HC.out]
       simp only [skip, hbl, if_false, hn2, and_self, if_true]
       rw [if_neg (by decide)]
      have HP2 := HP'.out (s.extract j s.size) ⟨#[45, 45]⟩ wr
      rw [hP] at HP2
      have HPh := Lib.hid hP
      have Hn2 := Lib.hid hn2
      clear hR hP hn2 e32 e9 e10 e13
      go_wp2_with (go_at_call 90; refine HP2.mono ?_; rintro e w2 ⟨rfl, hb2⟩; have HB2 := Lib.hid hb2; clear hb2)
      obtain ⟨go, rfl⟩ : ∃ go, go = gk := ⟨_, rfl⟩
      go_loopg [1] (s.size + 1) (fun kq v1 w' => ∃ i : Nat, v1 = .int .i64 (i : Int) ∧ j ≤ i ∧ (i = j → s.data.toList.drop i = 45 :: s.data.toList.drop (i + 1)) ∧ i ≤ s.size ∧ s.size < kq + i ∧ Hid (n + skip false (s.data.toList.drop n) = i + skip true (s.data.toList.drop i)) ∧ Below w.heap.size w w')
      case atStart => exact ⟨j, rfl, Nat.le_refl _, fun _ => by rw [hd.out, HC.out], hj, by omega, hR', below_then HB.out HB.out.size HB2.out⟩
      case round =>
       obtain ⟨i, rfl, hji, hfi, hi, hki, hRi, hbi⟩ := hrel
       have HBi := Lib.hid hbi
       clear hbi
       by_cases hlti : i < s.size
       ·have hdi := Lib.hid (drop_bt s i hlti)
        obtain ⟨ci, hci⟩ : ∃ c : UInt8, s[i] = c := ⟨_, rfl⟩
        have HCi := Lib.hid hci
        have hxi : ((s[i]'hlti).toNat : Int) = (ci.toNat : Int) := by rw [hci]
        have hiw : IntKind.i64.wrap ((i : Int) + 1) = ((i + 1 : Nat) : Int) := by rw [IntKind.wrap_i64]; omega
        by_cases h10 : ci = 10
        ·subst h10
         have hij : j < i := by
          rcases Nat.lt_or_ge j i with h | h
          ·exact h
          ·have hf := hfi (by omega)
           rw [hdi.out, hci] at hf
           exact absurd (List.cons.inj hf).1 (by decide)
         have hR2 : Hid (n + skip false (s.data.toList.drop n) = i + skip false (s.data.toList.drop i)) := by
          refine Lib.hid ?_
          rw [hRi.out, hdi.out, hci]
          simp only [skip, if_true]
          rw [if_pos (by decide)]
         clear hRi hci hfi
         go_wp2
         go_roundg (go - 1)
         case measure => omega
         case rel => exact ⟨i, rfl, by omega, by omega, hR2, HBi.out⟩
        ·have e10 : (((ci.toNat : Nat) : Int) == 10) = false := ne_lit 10 h10
         have hR2 : Hid (n + skip false (s.data.toList.drop n) = (i + 1) + skip true (s.data.toList.drop (i + 1))) := by
          refine Lib.hid ?_
          rw [hRi.out, hdi.out, hci]
          simp only [skip, h10, if_false]
          omega
         clear hRi hci hfi
         go_wp2
         go_roundg (gk - 1)
         case measure => omega
         case rel => exact ⟨i + 1, by simp, by omega, by omega, by omega, by omega, hR2, HBi.out⟩
       ·have hR2 : Hid (n + skip false (s.data.toList.drop n) = i + skip false (s.data.toList.drop i)) := by
         refine Lib.hid ?_
         rw [hRi.out, drop_end s i (by omega)]
         rfl
        have hij : j < i := by omega
        clear hRi hfi
        go_wp2
        go_roundg (go - 1)
        case measure => omega
        case rel => exact ⟨i, rfl, by omega, by omega, hR2, HBi.out⟩
     ·rw [decide_eq_false hn2] at hP
      have hR' : Hid (n + skip false (s.data.toList.drop n) = j) := by
       refine Lib.hid ?_
       rw [hR.out, hd.out, HC.out]
       simp only [skip, hbl, if_false, hn2, and_false]
       rfl
      have HP2 := HP'.out (s.extract j s.size) ⟨#[45, 45]⟩ wr
      rw [hP] at HP2
      have HPh := Lib.hid hP
      have Hn2 := Lib.hid hn2
      clear hR hP hn2 e32 e9 e10 e13
      go_wp2_with (go_at_call 90; refine HP2.mono ?_; rintro e w2 ⟨rfl, hb2⟩; have HB2 := Lib.hid hb2; clear hb2)
      rw [Exit.noGoto_ret]
      go_ret
      refine ⟨?_, below_then HB.out HB.out.size HB2.out⟩
      rw [hR'.out]
      rfl
    ·have e45 : (((c.toNat : Nat) : Int) == 45) = false := ne_lit 45 h45
     have hR' : Hid (n + skip false (s.data.toList.drop n) = j) := by
      refine Lib.hid ?_
      rw [hR.out, hd.out, HC.out]
      simp only [skip, hbl, if_false, h45, false_and]
      rfl
     clear hR
     go_wp2
     rw [Exit.noGoto_ret]
     go_ret
     refine ⟨?_, HB.out⟩
     rw [hR'.out]
     rfl
  ·have hR' : Hid (n + skip false (s.data.toList.drop n) = j) := by
    refine Lib.hid ?_
    rw [hR.out, drop_end s j (by omega)]
    simp only [skip]
    rfl
   clear hR
   go_wp2
   rw [Exit.noGoto_ret]
   go_ret
   refine ⟨?_, HB.out⟩
   rw [hR'.out]
   rfl
end Go.Proofs.YtahdjajdaggmjaaGreatDoor
end
section
namespace Go.Proofs.YtahdjajdaggmjaaGreatDoor
open Go.RowKit Go.Proofs.YtahdjajdaggmjaaGreatDoorW.PrintWords
def letB (c : UInt8) : Bool := (97 ≤ c.toNat && c.toNat ≤ 122) || (65 ≤ c.toNat && c.toNat ≤ 90) || c.toNat == 95
def digB (c : UInt8) : Bool := 48 ≤ c.toNat && c.toNat ≤ 57
def alnB (c : UInt8) : Bool := letB c || digB c
def nameLen : List UInt8 → Nat
 | [] => 0
 | c :: t => if letB c then 1 + (t.takeWhile alnB).length else 0
theorem takeWhile_le (p : UInt8 → Bool) (l : List UInt8) : (l.takeWhile p).length ≤ l.length := by
 induction l with
 | nil => simp
 | cons c t ih =>
  rw [List.takeWhile_cons]
  split
  ·simpa using ih
  ·simp
theorem nameLen_le (l : List UInt8) : nameLen l ≤ l.length := by
 cases l with
 | nil => simp [nameLen]
 | cons c t =>
  have := takeWhile_le alnB t
  rw [List.length_cons]
  show (if letB c = true then 1 + (t.takeWhile alnB).length else 0) ≤ _
  split <;> omega
theorem bt_drop (s : ByteArray) (i : Nat) (h : i < s.size) : ∃ c : UInt8, bt s (i : Int) = (c.toNat : Int) ∧ s.data.toList.drop i = c :: s.data.toList.drop (i + 1) := by
 refine ⟨s[i], ?_, drop_bt s i h⟩
 have := bt_at s (i : Int) (by rw [Int.toNat_natCast]; exact h)
 rw [← this]
 simp only [Int.toNat_natCast]
theorem hpre_eq (a b : ByteArray) : ((a.extract 0 b.size).toList == b.toList) = hpre a b := by
 unfold hpre
 rw [Lib.toList_data, Lib.toList_data, Lib.extract_data, List.drop_zero, Nat.sub_zero, Lib.size_eq]
 rw [Bool.eq_iff_iff, List.isPrefixOf_iff_prefix, List.prefix_iff_eq_take, beq_iff_eq]
 exact eq_comm
theorem hpre_short (a b : ByteArray) (h : ¬ b.size ≤ a.size) : hpre a b = false := by
 unfold hpre
 rw [Bool.eq_false_iff]
 intro h2
 rw [List.isPrefixOf_iff_prefix] at h2
 have := h2.length_le
 rw [← Lib.size_eq, ← Lib.size_eq] at this
 exact h this
end Go.Proofs.YtahdjajdaggmjaaGreatDoor
end
section
namespace Go.Proofs.YtahdjajdaggmjaaGreatDoor.H
def sumPow : List Nat → Nat
 | [] => 0
 | a :: l => 2 ^ a + sumPow l
def dimsN (n : Nat) : List Nat := (List.range 24).filter fun i => n.testBit i
theorem mem_dimsN {n i : Nat} : i ∈ dimsN n ↔ i < 24 ∧ n.testBit i = true := by simp [dimsN]
theorem dimsN_nodup (n : Nat) : (dimsN n).Nodup := List.Pairwise.filter _ List.nodup_range
theorem dimsN_len (n : Nat) : (dimsN n).length ≤ 24 := by
 have := List.length_filter_le (fun i => n.testBit i) (List.range 24)
 rwa [List.length_range] at this
theorem add_or {a y : Nat} (h : y.testBit a = false) : 2 ^ a + y = 2 ^ a ||| y := by
 let w := max a y + 2
 have hp : ∀ n, n < 2 ^ n := fun n => Nat.lt_two_pow_self
 have h1 : 2 ^ a < 2 ^ (w - 1) := Nat.pow_lt_pow_right (by omega) (by omega)
 have h2 : y < 2 ^ (w - 1) := Nat.lt_of_lt_of_le (hp y) (Nat.pow_le_pow_right (by omega) (by omega))
 have h3 : 2 ^ w = 2 ^ (w - 1) * 2 := by rw [← Nat.pow_succ]; congr 1
 have e := BitVec.add_eq_or_of_and_eq_zero (BitVec.ofNat w (2 ^ a)) (BitVec.ofNat w y) (by
  apply BitVec.eq_of_toNat_eq
  rw [BitVec.toNat_and, BitVec.toNat_ofNat, BitVec.toNat_ofNat, Nat.mod_eq_of_lt (by omega), Nat.mod_eq_of_lt (by omega)]
  show 2 ^ a &&& y = 0 % 2 ^ w
  rw [Nat.zero_mod]
  apply Nat.eq_of_testBit_eq
  intro i
  rw [Nat.testBit_and, Nat.testBit_two_pow, Nat.zero_testBit]
  by_cases hi : a = i
  ·subst hi; rw [h]; simp
  ·simp [hi])
 have e2 := congrArg BitVec.toNat e
 rw [BitVec.toNat_or, BitVec.toNat_add, BitVec.toNat_ofNat, BitVec.toNat_ofNat, Nat.mod_eq_of_lt (show 2 ^ a < 2 ^ w by omega), Nat.mod_eq_of_lt (show y < 2 ^ w by omega), Nat.mod_eq_of_lt (by omega)] at e2
 exact e2
theorem sumPow_testBit : ∀ {l : List Nat}, l.Nodup → ∀ j, (sumPow l).testBit j = decide (j ∈ l)
 | [], _, j => by simp [sumPow]
 | a :: l, h, j => by
  have hc := List.nodup_cons.1 h
  unfold sumPow
  rw [add_or (by rw [sumPow_testBit hc.2]; simp [hc.1]), Nat.testBit_or, Nat.testBit_two_pow, sumPow_testBit hc.2]
  by_cases e : a = j
  ·subst e; simp
  ·have : ¬ j = a := fun h => e h.symm
   simp [e, this]
theorem sumPow_le : ∀ {l : List Nat} (b : Nat), (∀ x ∈ l, x ≤ b) → sumPow l ≤ l.length * 2 ^ b
 | [], b, _ => by simp [sumPow]
 | a :: l, b, h => by
  have h1 := sumPow_le (l := l) b fun x hx => h x (List.mem_cons_of_mem _ hx)
  have h2 : 2 ^ a ≤ 2 ^ b := Nat.pow_le_pow_right (by omega) (h a (List.mem_cons_self ..))
  unfold sumPow
  rw [List.length_cons, Nat.succ_mul]
  omega
theorem sumPow_append : ∀ (a b : List Nat), sumPow (a ++ b) = sumPow a + sumPow b
 | [], b => by simp [sumPow]
 | x :: a, b => by
  show 2 ^ x + sumPow (a ++ b) = 2 ^ x + sumPow a + sumPow b
  rw [sumPow_append a b]
  omega
theorem sumPow_dimsN (n : Nat) : sumPow (dimsN n) = n % 16777216 := by
 apply Nat.eq_of_testBit_eq
 intro i
 rw [sumPow_testBit (dimsN_nodup n), show (16777216 : Nat) = 2 ^ 24 from rfl, Nat.testBit_mod_two_pow]
 rw [Bool.eq_iff_iff]
 simp [mem_dimsN]
theorem range_asc (n : Nat) : (List.range n).Pairwise (· < ·) := List.pairwise_lt_range
theorem dimsN_asc (n : Nat) : (dimsN n).Pairwise (· < ·) := (range_asc 24).filter _
theorem testBit_high {n i : Nat} (h : n < 16777216) (hi : 24 ≤ i) : n.testBit i = false :=
 Nat.testBit_lt_two_pow (Nat.lt_of_lt_of_le (show n < 2 ^ 24 from h) (Nat.pow_le_pow_right (by omega) hi))
end Go.Proofs.YtahdjajdaggmjaaGreatDoor.H
end
section
namespace Go.Proofs.YtahdjajdaggmjaaGreatDoor
open Go.RowKit
def signFrom (s : ByteArray) : Nat → Nat → Option Nat
 | 0, _ => none
 | k + 1, j => if hpre s (signV j) then some j else signFrom s k (j + 1)
def oneT (n : Nat) (s : ByteArray) : Int × ByteArray :=
 if 0 < n then (1, s.extract 0 n) else match signFrom s 20 0 with
  | some j => (2, signV j)
  | none => (0, ⟨#[]⟩)
theorem sign_index : ∀ (j : Nat), j < 20 → ∀ (w : World), (Instr.index 139 (.agg signArr) (.int .i64 (j : Int))).run Tryz.prog w = .ok (.string (signV j)) w
 | 0, _, _ => by kernel_rfl
 | 1, _, _ => by kernel_rfl
 | 2, _, _ => by kernel_rfl
 | 3, _, _ => by kernel_rfl
 | 4, _, _ => by kernel_rfl
 | 5, _, _ => by kernel_rfl
 | 6, _, _ => by kernel_rfl
 | 7, _, _ => by kernel_rfl
 | 8, _, _ => by kernel_rfl
 | 9, _, _ => by kernel_rfl
 | 10, _, _ => by kernel_rfl
 | 11, _, _ => by kernel_rfl
 | 12, _, _ => by kernel_rfl
 | 13, _, _ => by kernel_rfl
 | 14, _, _ => by kernel_rfl
 | 15, _, _ => by kernel_rfl
 | 16, _, _ => by kernel_rfl
 | 17, _, _ => by kernel_rfl
 | 18, _, _ => by kernel_rfl
 | 19, _, _ => by kernel_rfl
 | n + 20, h, _ => absurd h (by omega)
set_option maxRecDepth 100000 in
set_option maxHeartbeats 4000000 in
theorem le_one (HP : ∀ (a b : ByteArray) (w : World), Calls Tryz.prog 90 #[.string a, .string b] w fun e w' => e = .returned (.bool (hpre a b)) ∧ Below w.heap.size w w')
  (s : ByteArray) (n : Nat) (w : World) (HT : Tab w) (hn : n ≤ s.size)
  (HN : ∀ (w : World), Calls Tryz.prog 91 #[.string s] w fun e w' => e = .returned (.int .i64 (n : Int)) ∧ Below w.heap.size w w') :
  Calls Tryz.prog 74 #[.string s] w fun e w' => e = .returned (.agg #[.int .i64 (oneT n s).1, .string (oneT n s).2, .int .i64 0]) ∧ Below w.heap.size w w' := by
 have HP' := Lib.hid HP
 have HN' := Lib.hid HN
 have HT' := Lib.hid HT
 clear HP HN HT
 by_cases h0 : 0 < n
 ·have hO : oneT n s = (1, s.extract 0 n) := by unfold oneT; rw [if_pos h0]
  rw [hO]
  clear hO
  go_enter Tryz.func74, Tryz.ntmps74
  go_wp2_with (go_at_call 91; refine (HN'.out _).mono ?_; rintro e w2 ⟨rfl, hb2⟩; obtain ⟨hc0, hf0⟩ := own_at (own_cell hb2) 0 _ rfl; obtain ⟨hc1, hf1⟩ := own_at (own_cell hb2) 1 _ rfl; obtain ⟨hc2, hf2⟩ := own_at (own_cell hb2) 2 _ rfl; have HB2 := Lib.hid hb2; clear hb2)
  exact bodyPost_ret (v := .agg #[.int .i64 1, .string (s.extract 0 n), .int .i64 0]) (by simp [results, Tryz.results74, hc0, hc1, hc2, go_sem]) rfl ⟨rfl, ((((below_then ((Below.refl _ _).alloc (Nat.le_refl _) _) (by simp) HB2.out).setCell (by simp) _).setCell (by simp) _).setCell (by simp) _)⟩
 ·go_enter Tryz.func74, Tryz.ntmps74
  go_wp2_with (first
   | (go_at_call 91; refine (HN'.out _).mono ?_; rintro e w2 ⟨rfl, hb2⟩; obtain ⟨tS, frS, hS⟩ := (HT'.out.below (below_then ((Below.refl _ _).alloc (Nat.le_refl _) _) (by simp) hb2)).signs; have HO := Lib.hid (own_cell hb2); have HB2 := Lib.hid hb2; clear hb2)
   | (refine wpList_load_row rfl _ _ rfl 0 rfl tS signArr frS _ hS Tryz.underlying139 rfl (by kernel_rfl) ?_))
  have HB3 := Lib.hid (below_then ((Below.refl _ _).alloc (Nat.le_refl _) _) (by simp) HB2.out : Below w.heap.size w w2)
  clear HB2
  go_loopg [15] 21 (fun kq v15 w' => ∃ j : Nat, v15 = .int .i64 (j : Int) ∧ j ≤ 20 ∧ kq + j = 21 ∧ Hid (oneT n s = match signFrom s (20 - j) j with | some i => (2, signV i) | none => (0, ⟨#[]⟩)) ∧ Hid (w'.heap[w.heap.size]? = some (.cells #[.int .i64 0, .string ⟨#[]⟩, .int .i64 0] 110 (0, 0))) ∧ Below w.heap.size w w')
  case atStart => exact ⟨0, rfl, by omega, rfl, Lib.hid (by unfold oneT; rw [if_neg h0]), HO, HB3.out⟩
  case round =>
   obtain ⟨j, rfl, hj, hk, hR, hO, hb⟩ := hrel
   have HB := Lib.hid hb
   have hBs := hb.size
   clear hb
   by_cases hlt : j < 20
   ·have hidx := sign_index j hlt
    have hstep : 20 - j = (20 - (j + 1)) + 1 := by omega
    have hjw : IntKind.i64.wrap ((j : Int) + 1) = ((j + 1 : Nat) : Int) := by rw [IntKind.wrap_i64]; omega
    have HP2 := HP'.out s (signV j) wr
    have hOl := (Array.getElem?_eq_some_iff.1 hO.out).1
    by_cases hp : hpre s (signV j) = true
    ·rw [hp] at HP2
     have hR' : Hid (oneT n s = (2, signV j)) := by
      refine Lib.hid ?_
      rw [hR.out, hstep]
      simp only [signFrom, hp, if_true]
     have HPh := Lib.hid hp
     clear hR hp
     go_wp2_with (go_at_call 90; refine HP2.mono ?_; rintro e w3 ⟨rfl, hb3⟩; have HO3 := (hb3.block _ (by omega)).trans hO.out; obtain ⟨hc0, hf0⟩ := own_at HO3 0 _ rfl; obtain ⟨hc1, hf1⟩ := own_at HO3 1 _ rfl; obtain ⟨hc2, hf2⟩ := own_at HO3 2 _ rfl; have HB4 := Lib.hid (below_then HB.out hBs hb3); clear HO3 hb3)
     exact bodyPost_ret (v := .agg #[.int .i64 2, .string (signV j), .int .i64 0]) (by simp [results, Tryz.results74, hc0, hc1, hc2, go_sem]) rfl ⟨by rw [hR'.out], (((HB4.out.setCell (by simp) _).setCell (by simp) _).setCell (by simp) _)⟩
    ·have hp' := Bool.eq_false_iff.2 hp
     rw [hp'] at HP2
     have hR' : Hid (oneT n s = match signFrom s (20 - (j + 1)) (j + 1) with | some i => (2, signV i) | none => (0, ⟨#[]⟩)) := by
      refine Lib.hid ?_
      rw [hR.out, hstep]
      simp only [signFrom, hp', Bool.false_eq_true, if_false]
     clear hR hp hp'
     go_wp2_with (go_at_call 90; refine HP2.mono ?_; rintro e w3 ⟨rfl, hb3⟩; have HO3 := Lib.hid ((hb3.block _ (by omega)).trans hO.out); have HB4 := Lib.hid (below_then HB.out hBs hb3); clear hb3)
     go_roundg (gk - 1)
     case measure => omega
     case rel => exact ⟨j + 1, by simp, by omega, by omega, hR', HO3, HB4.out⟩
   ·obtain rfl : j = 20 := by omega
    have hR' : Hid (oneT n s = (0, ⟨#[]⟩)) := hR
    clear hR
    obtain ⟨hc0, hf0⟩ := own_at hO.out 0 _ rfl
    obtain ⟨hc1, hf1⟩ := own_at hO.out 1 _ rfl
    obtain ⟨hc2, hf2⟩ := own_at hO.out 2 _ rfl
    go_wp2
    exact bodyPost_ret (v := .agg #[.int .i64 0, .string ⟨#[]⟩, .int .i64 0]) (by simp [results, Tryz.results74, hc0, hc1, hc2, go_sem]) rfl ⟨by rw [hR'.out], (((HB.out.setCell (by simp) _).setCell (by simp) _).setCell (by simp) _)⟩
end Go.Proofs.YtahdjajdaggmjaaGreatDoor
end
section
namespace Go.Proofs.YtahdjajdaggmjaaGreatDoor
open Go.RowKit H
open Go.Proofs.YtahdjajdaggmjaaGreatDoorW.PrintWords Go.Proofs.YtahdjajdaggmjaaGreatDoorW.PrintLast Go.Proofs.YtahdjajdaggmjaaGreatDoorW.PrintMore
theorem insAt_le : ∀ (O : List C) (c : C), insAt O c ≤ O.length
 | [], _ => Nat.le_refl _
 | x :: r, c => by
  unfold insAt
  split
  ·exact Nat.succ_le_succ (insAt_le r c)
  ·exact Nat.zero_le _
theorem insAt_lt : ∀ (O : List C) (c : C) (a : Nat) (h : a < O.length), a ≤ insAt O c → ltC O[a] c = decide (a < insAt O c)
 | [], _, _, h, _ => absurd h (Nat.not_lt_zero _)
 | x :: r, c, 0, h, _ => by
  rw [List.getElem_cons_zero]
  unfold insAt
  cases hx : ltC x c
  ·rw [if_neg (by simp), decide_eq_false (by omega)]
  ·rw [if_pos rfl, decide_eq_true (by omega)]
 | x :: r, c, a + 1, h, ha => by
  rw [List.getElem_cons_succ]
  unfold insAt at ha ⊢
  cases hx : ltC x c
  ·rw [hx, if_neg (by simp)] at ha
   omega
  ·rw [hx, if_pos rfl] at ha
   rw [if_pos rfl, insAt_lt r c a (by simpa using h) (by omega)]
   congr 1
   simp
theorem take_at {w : World} {A : Option Addr} {l : List C} (h : Rd w A l) (a : Nat) : Rd w A (l.take a) := by
 refine ⟨by have := h.1; rw [List.length_take]; omega, fun hp => ?_⟩
 rw [List.length_take] at hp
 obtain ⟨b, off, e, hc⟩ := h.2 (by omega)
 refine ⟨b, off, e, fun j hj => ?_⟩
 rw [List.length_take] at hj
 rw [List.getElem_take]
 exact hc j (by omega)
theorem cutC (A : Option Addr) (n c m : Nat) (hm : m ≤ n) : ∃ A' : Option Addr, (∀ W : World, (Instr.slice 45 (.slice A n c) (some (.int .i64 (m : Int))) none none).run Tryz.prog W = .ok (.slice A' (n - m) (c - m)) W) ∧
  ∀ (w : World) (l : List C), l.length = n → n ≤ c → Rd w A l → Rd w A' (l.drop m) := by
 obtain ⟨i, hi, hz, hs, hb⟩ := infoC'
 refine ⟨if c = m then A else A.map (·.add (m * 2)), fun W => ?_, fun w l hl hc h => ⟨by have := h.1; rw [List.length_drop]; omega, fun hp => ?_⟩⟩
 ·have hel : Tryz.prog.elem 45 = 113 := by simp [Program.elem, Tryz.underlying45]
  have hu : Tryz.prog.underlying 45 = some (.slice (Tryz.prog.elem 45)) := by rw [hel]; exact Tryz.underlying45
  rw [run_slice_l W 45 A n c hu .i64 (m : Int) (Int.natCast_nonneg _) (by omega), hel]
  simp [sizeOf, typeInfo, hi, hs, sliced, Result.andThen]
 ·rw [List.length_drop] at hp
  obtain ⟨b, off, rfl, hcell⟩ := h.2 (by omega)
  rw [if_neg (by omega)]
  have ea : (⟨b, off, none⟩ : Addr).add (m * 2) = ⟨b, off + m * 2, none⟩ := by
   unfold Addr.add
   split <;> simp_all
  refine ⟨b, off + m * 2, by rw [Option.map_some, ea], fun j hj => ?_⟩
  rw [List.length_drop] at hj
  obtain ⟨h1, h2⟩ := hcell (m + j) (by omega)
  rw [List.getElem_drop]
  rw [show off + m * 2 + j * 2 = off + (m + j) * 2 by omega]
  exact ⟨h1, h2⟩
structure SmallR : Prop where
 right : ∀ (c : C) (w : World), Calls Tryz.prog 98 #[.agg #[.int .u32 (un c.1), .int .u32 (un c.2)]] w fun e w' => e = .returned (.bool (ok c)) ∧ Below w.heap.size w w'
 needed : ∀ (A : Option Addr) (cap : Nat) (l : List C) (c : C) (w : World), Rd w A l → l.length ≤ cap → l.length ≤ 1000000 → Calls Tryz.prog 99 #[.slice A l.length cap, .agg #[.int .u32 (un c.1), .int .u32 (un c.2)]] w fun e w' => e = .returned (.bool (H.needed l c)) ∧ Below w.heap.size w w'
 less : ∀ (a b : C) (w : World), Calls Tryz.prog 100 #[.agg #[.int .u32 (un a.1), .int .u32 (un a.2)], .agg #[.int .u32 (un b.1), .int .u32 (un b.2)]] w fun e w' => e = .returned (.bool (ltC a b)) ∧ Below w.heap.size w w'
set_option maxRecDepth 100000 in
set_option maxHeartbeats 8000000 in
theorem ref_Least (S : SmallR) (A : Option Addr) (cap : Nat) (l : List C) (w : World) (hR : Rd w A l) (hcp : l.length ≤ cap) (hlen : l.length ≤ 1000000) :
  Calls Tryz.prog 81 #[.slice A l.length cap] w fun e w' => ∃ v, e = .returned (.tuple #[v, .int .i64 (leastR l).2]) ∧ Own w' w.heap.size v (leastR l).1 ∧ Below w.heap.size w w' := by
 go_enter Tryz.func81, Tryz.ntmps81
 go_wp2
 go_loopg [4] (l.length + 1) (fun kq v4 w' => ∃ j : Nat, v4 = .int .i64 (j : Int) ∧ j ≤ l.length ∧ kq + j = l.length + 1 ∧ Hid (∀ d ∈ l.take j, ok d = true) ∧ Below w.heap.size w w')
 case atStart => exact ⟨0, rfl, Nat.zero_le _, rfl, Lib.hid (by simp), Below.refl _ _⟩
 case round =>
  obtain ⟨j, rfl, hj, hk, hok, hb⟩ := hrel
  by_cases hlt : j < l.length
  ·obtain ⟨b0, off, rfl, h1, h2⟩ := (hR.below hb).at_ hlt
   have hr := S.right l[j]
   have HB := Lib.hid hb
   have HOK := hok
   have hsz := hb.size
   clear hok hb
   cases hokj : ok l[j]
   ·rw [hokj] at hr
    have hle : Hid (leastR l = ([], 2)) := by
     refine Lib.hid ?_
     have : l.all ok = false := by
      rw [List.all_eq_false]
      exact ⟨l[j], List.getElem_mem _, by rw [hokj]; exact Bool.false_ne_true⟩
     unfold leastR
     rw [this]
     rfl
    clear hokj
    go_wp2_with (go_at_call 98; refine (hr _).mono ?_; rintro e w2 ⟨rfl, hb2⟩)
    go_ret2
    rw [hle]
    exact ⟨_, rfl, Own.nil _ _, below_then HB hsz hb2⟩
   ·rw [hokj] at hr
    have HO := Lib.hid hokj
    clear hokj
    go_wp2_with (go_at_call 98; refine (hr _).mono ?_; rintro e w2 ⟨rfl, hb2⟩)
    go_roundg (gk - 1)
    case measure => omega
    case rel =>
     refine ⟨j + 1, by simp, by omega, by omega, Lib.hid fun d hd => ?_, below_then HB hsz hb2⟩
     rw [List.take_succ_eq_append_getElem hlt] at hd
     rcases List.mem_append.1 hd with h3 | h3
     ·exact HOK d h3
     ·rw [List.mem_singleton.1 h3]
      exact HO
  ·have ejl : l.take j = l := List.take_of_length_le (by omega)
   have hall : l.all ok = true := by
    rw [List.all_eq_true]
    intro d hd
    exact hok d (by rw [ejl]; exact hd)
   have hleast : Hid (leastR l = if (insAll l l).length ≤ 64 then (insAll l l, 0) else ([], 3)) := by
    refine Lib.hid ?_
    unfold leastR
    rw [hall, if_pos rfl]
   clear hok ejl hall
   go_wp2
   rename World => w1
   have HB1 := Lib.hid hb
   clear hb
   go_loopg [5, 6] (l.length + 1) (fun kq v5 v6 w' => ∃ j : Nat, v6 = .int .i64 (j : Int) ∧ j ≤ l.length ∧ kq + j = l.length + 1 ∧ Own w' w.heap.size v5 (insAll l (l.take j)) ∧ Below w.heap.size w w')
   case atStart => exact ⟨0, rfl, Nat.zero_le _, by omega, Own.nil _ _, HB1⟩
   case round =>
    obtain ⟨j, rfl, hj, hk, ho, hb⟩ := hrel
    by_cases hlt : j < l.length
    ·obtain ⟨b0, off, rfl, h1, h2⟩ := (hR.below hb).at_ hlt
     have hn := S.needed (some ⟨b0, off, none⟩) cap l l[j] wr (hR.below hb) hcp hlen
     have hnext := insAll_take_succ l j hlt
     have hOl := length_insAll l (l.take j)
     have hOl2 := List.length_take_le j l
     have HB := Lib.hid hb
     have HO := Lib.hid ho
     have hsz := hb.size
     clear ho hb
     cases hneed : needed l l[j]
     ·rw [hneed] at hn hnext
      rw [if_neg (by simp)] at hnext
      have HN := Lib.hid hnext
      clear hneed hnext
      go_wp2_with (go_at_call 99; refine hn.mono ?_; rintro e w2 ⟨rfl, hb2⟩)
      go_roundg (gk - 1)
      case measure => omega
      case rel => exact ⟨j + 1, by simp, by omega, by omega, by rw [HN]; exact HO.below hb2, below_then HB hsz hb2⟩
     ·rw [hneed] at hn hnext
      rw [if_pos rfl] at hnext
      have HN := Lib.hid hnext
      clear hneed hnext
      generalize hO : insAll l (l.take j) = O at *
      clear hO
      obtain ⟨AO, cO, rfl, hRO⟩ := (show Own _ _ _ _ from HO).slice
      have hcO : O.length ≤ cO := by
       rcases HO.1.2 with ⟨hv, hn0⟩ | ⟨g, cp, cur, hv, _, _, hcp', _⟩
       ·omega
       ·cases hv; exact hcp'
      obtain ⟨g0, hg0⟩ : ∃ g0, g0 = gk := ⟨_, rfl⟩
      have HK := Lib.hid hk
      clear hk
      have hOle := insAt_le O l[j]
      go_wp2_with (go_at_call 99; refine hn.mono ?_; rintro e w2 ⟨rfl, hb2⟩)
      have HB2 := Lib.hid (below_then HB hsz hb2)
      have HO2 := Lib.hid ((show Own _ _ _ _ from HO).below hb2)
      have HR2 := Lib.hid ((hR.below HB).below hb2)
      clear hb2 h1 h2 hn hRO
      go_loopg [7] (O.length + 1) (fun kq v7 w' => ∃ a : Nat, v7 = .int .i64 (a : Int) ∧ a ≤ insAt O l[j] ∧ kq + a = O.length + 1 ∧ Below w2.heap.size w2 w')
      case atStart => exact ⟨0, rfl, Nat.zero_le _, rfl, Below.refl _ _⟩
      case round =>
       obtain ⟨a, rfl, hale0, hka, hb3⟩ := hrel
       have HB3 := Lib.hid hb3
       clear hb3
       go_upto_region 12 with fail
       go_cut [47] from 33 to 49 (fun s47 wx => s47 = .bool (decide (a < insAt O l[j])) ∧ Below w2.heap.size w2 wx)
       case first =>
        obtain ⟨b1, o1, hAj, g1, g2⟩ := ((show Rd _ _ _ from HR2).below HB3).at_ hlt
        cases hAj
        by_cases hal : a < O.length
        ·obtain ⟨A5, c5, e5, hR5⟩ := ((show Own _ _ _ _ from HO2).below HB3).slice
         cases e5
         obtain ⟨b2, o2, rfl, g3, g4⟩ := hR5.at_ hal
         have hL := S.less O[a] l[j]
         rw [insAt_lt O l[j] a hal hale0] at hL
         have hgd : ((a : Nat) : Int) < (O.length : Int) := by omega
         refine start_ (n := 15) (S := fun w' => w'.cell? ⟨b2, o2 + a * 2, none⟩ = some (.int .u32 (un O[a].1)) ∧ w'.cell? ⟨b2, o2 + a * 2 + 1, none⟩ = some (.int .u32 (un O[a].2)) ∧ w'.cell? ⟨b0, off + j * 2, none⟩ = some (.int .u32 (un l[j].1)) ∧ w'.cell? ⟨b0, off + j * 2 + 1, none⟩ = some (.int .u32 (un l[j].2))) (ds := []) #[false, false, false, false, false, false, false, false, false, false, false, false, false, false, false] (by kernel_rfl) rfl rfl ⟨g3, g4, g1, g2⟩ (fun hHeld => ?_)
         have HBd : Below w2.heap.size w2 wr.drew := below_drew HB3
         clear HB3 g1 g2 g3 g4
         generalize wr.drew = Wd at *
         refine pu_ 0 33 ?_
         refine pu_ 1 34 ?_
         refine pu_ 2 35 ?_
         refine pu_ 3 36 ?_
         refine pu_ 4 37 ?_
         refine pu_ 5 38 ?_
         refine pu_ 6 39 ?_
         refine pu_ 7 40 ?_
         refine ta_ 8 41 ?_
         refine pu_ 9 42 ?_
         refine pu_ 10 43 ?_
         refine pu_ 11 44 ?_
         refine ta_ 12 45 ?_
         refine on_ 13 (some 46) fun K hK => ?_
         refine goes_ Tryz.func100 (by kernel_rfl) rfl #[.agg #[.int .u32 (un O[a].1), .int .u32 (un O[a].2)], .agg #[.int .u32 (un l[j].1), .int .u32 (un l[j].2)]] (by rfl) rfl rfl (by (try simp only [List.map_toArray, List.map_cons, List.map_nil]); first | done | rfl) ?_
         with_reducible refine (hL _).mono ?_
         rintro e W3 ⟨rfl, hb⟩
         refine ⟨_, rfl, ?_⟩
         have HBe := below_then HBd HBd.size hb
         have hH2 := hHeld
         refine hK.out _ _ ⟨pw_cell_below hb hHeld.1, pw_cell_below hb hHeld.2.1, pw_cell_below hb hHeld.2.2.1, pw_cell_below hb hHeld.2.2.2⟩ (fun hHeld => ?_)
         clear hK K hH2
         refine no_ 46 ?_
         refine pu_ 14 47 ?_
         refine done_ (by kernel_rfl) ?_
         go_wp2_with fail
         go_meet
         case rel => exact ⟨rfl, HBe⟩
        ·have hgd : decide (((a : Nat) : Int) < (O.length : Int)) = false := decide_eq_false (by omega)
         have hgd2 : ¬ ((a : Nat) : Int) < (O.length : Int) := by omega
         go_quiet (fail)
         go_wp2_with fail
         go_meet
         case rel => exact ⟨by rw [decide_eq_false (by omega)], pw_below_drewN HB3 _⟩
       case rest =>
        obtain ⟨rfl, hb4⟩ := hcut
        clear HB3
        have HB4 := Lib.hid hb4
        clear hb4
        by_cases hai : a < insAt O l[j]
        ·have hbo : decide (a < insAt O l[j]) = true := decide_eq_true hai
         rw [hbo]
         go_wp2_with fail
         go_roundg (gk - 1)
         case measure => omega
         case rel => exact ⟨a + 1, by simp, by omega, by omega, HB4⟩
        ·have hbo : decide (a < insAt O l[j]) = false := decide_eq_false hai
         rw [hbo]
         have ha : a = insAt O l[j] := by omega
         have hale : a ≤ O.length := by omega
         have HA := Lib.hid ha
         clear hai ha hale0 hka hbo
         go_upto_region 14 with fail
         go_cut [64] from 20 to 79 (fun s64 wx => s64 = .bool (!decide (O[a]? = some l[j])) ∧ Below w2.heap.size w2 wx)
         case first =>
          obtain ⟨b1, o1, hAj, g1, g2⟩ := ((show Rd _ _ _ from HR2).below HB4).at_ hlt
          cases hAj
          by_cases hal : a < O.length
          ·obtain ⟨A5, c5, e5, hR5⟩ := ((show Own _ _ _ _ from HO2).below HB4).slice
           cases e5
           obtain ⟨b2, o2, rfl, g3, g4⟩ := hR5.at_ hal
           have hq := fun w => eqCn O[a] l[j] w
           have hgd : decide (((a : Nat) : Int) = (O.length : Int)) = false := decide_eq_false (by omega)
           have hgd2 : ¬ ((a : Nat) : Int) = (O.length : Int) := by omega
           have hgd3 : ((a : Nat) : Int) < (O.length : Int) := by omega
           have hgd5 : (((a : Nat) : Int) == (O.length : Int)) = false := by simpa using hgd2
           have hrel64 : (!decide (O[a]? = some l[j])) = !decide (O[a] = l[j]) := by rw [List.getElem?_eq_getElem hal]; simp
           have HR64 := Lib.hid hrel64
           clear hrel64
           go_quiet (fail)
           go_wp2_with fail
           go_meet
           case rel => exact ⟨by rw [show (!decide (O[a]? = some l[j])) = _ from HR64]; first | done | rfl | (rw [hgd5, Bool.false_or]), pw_below_drewN HB4 _⟩
          ·have hgd : decide (((a : Nat) : Int) = (O.length : Int)) = true := decide_eq_true (by omega)
           have hgd2 : ((a : Nat) : Int) = (O.length : Int) := by omega
           have hn64 : Hid ((!decide (O[a]? = some l[j])) = true) := Lib.hid (by rw [List.getElem?_eq_none (by omega)]; simp)
           go_quiet (fail)
           go_wp2_with fail
           go_meet
           case rel => exact ⟨by rw [show (!decide (O[a]? = some l[j])) = true from hn64], pw_below_drewN HB4 _⟩
         case rest =>
          obtain ⟨rfl, hb5⟩ := hcut
          clear HB4
          have HB5 := Lib.hid hb5
          clear hb5
          by_cases hne : O[a]? = some l[j]
          ·have hbo : (!decide (O[a]? = some l[j])) = false := by rw [decide_eq_true hne]; rfl
           rw [hbo]
           have hins : Hid (ins O l[j] = O) := Lib.hid (by unfold ins; rw [← (show a = _ from HA), if_pos hne])
           clear hbo hne
           go_wp2_with fail
           go_roundg (g0 - 1)
           case measure => have := (show _ = _ from HK); omega
           case rel => exact ⟨j + 1, by simp, by omega, by have := (show _ = _ from HK); omega, by rw [HN, hins]; exact (show Own _ _ _ _ from HO2).below HB5, below_then HB2 (Below.size HB2) HB5⟩
          ·have hbo : (!decide (O[a]? = some l[j])) = true := by rw [decide_eq_false hne]; rfl
           rw [hbo]
           have HNE := Lib.hid hne
           clear hbo hne
           go_upto_region 15 with fail
           have hlenO : O.length ≤ 1000000 := by omega
           obtain ⟨b1, o1, hAj, e1, e2⟩ := ((show Rd _ _ _ from HR2).below HB5).at_ hlt
           cases hAj
           have ho5 := (show Own _ _ _ _ from HO2).below HB5
           have hb6 := below_then HB2 (Below.size HB2) HB5
           obtain ⟨A5, c5, e5, hR5⟩ := ho5.slice
           cases e5
           have hRt := take_at hR5 a
           obtain ⟨A2, hcut2, hdrop⟩ := cutC AO O.length cO a hale
           have hR2 := hdrop _ O rfl hcO hR5
           have hgd3 : ((a : Nat) : Int) ≤ (O.length : Int) := by omega
           have hgd4 : ((a : Nat) : Int) ≤ (cO : Int) := by omega
           clear hdrop hR5
           refine start_ (n := 16) (S := fun w' => w'.cell? ⟨b0, off + j * 2, none⟩ = some (.int .u32 (un l[j].1)) ∧ w'.cell? ⟨b0, off + j * 2 + 1, none⟩ = some (.int .u32 (un l[j].2))) (ds := []) #[false, false, false, false, false, false, false, false, false, false, false, false, false, false, false, false] (by kernel_rfl) rfl rfl ⟨e1, e2⟩ (fun hHeld => ?_)
           have hHeld0 := hHeld
           have hRtd : Rd wc.drew AO (O.take a) := hRt
           have hR2d : Rd wc.drew A2 (O.drop a) := hR2
           have hb6d : Below w.heap.size w wc.drew := below_drew hb6
           clear hRt hR2 hb6 ho5
           generalize wc.drew = Wd at *
           refine pu_ 1 66 ?_
           refine pu_ 2 67 ?_
           refine pu_ 3 68 ?_
           refine pu_ 5 70 ?_
           refine pu_ 6 71 ?_
           refine pu_ 7 72 ?_
           refine ta_ 8 73 ?_
           refine pu_ 11 76 ?_
           refine pu_ 12 77 ?_
           refine pu_ 13 78 ?_
           refine join_ (σ := Value × Value × Value) 3 #[true, true, true, true, true, true, true, true, true, true, false, true, true, true, false, false] (fun s => [(65, s.1), (69, s.2.1), (74, s.2.2)]) (fun s w' => Own w' Wd.heap.size s.2.1 (O.take a) ∧ Own w' Wd.heap.size s.2.2 [l[j]] ∧ Below Wd.heap.size Wd w') ?_ ?_
           ·rintro ⟨v65, v69, v74⟩ w1 ⟨o69, o74, bw1⟩
            obtain ⟨A74, c74, rfl, R74⟩ := o74.slice
            refine norm_ (a' := ?_) ?_ ?_
            rotate_left
            ·simp only [putAll, Act.put, List.setIfInBounds_toArray, List.set_cons_zero, List.set_cons_succ]
             rfl
            refine on_ 10 (some 75) fun K hK => ?_
            rw [if_pos (by rfl)]
            refine wp_append_rd (.tmp 69) (.tmp 74) rfl rfl o69 rfl R74 (by simp; omega) bw1.size ?_
            intro v75 w2 o75 bw2 _
            have bw12 := bw1.trans bw2
            have hH2 := hHeld
            refine hK.out _ _ ⟨pw_cell_below bw12 hHeld0.1, pw_cell_below bw12 hHeld0.2⟩ (fun hHeld => ?_)
            clear hK K hH2
            refine norm_ (a' := ?_) ?_ ?_
            rotate_left
            ·simp only [Act.put, List.setIfInBounds_toArray]
             rfl
            refine on_ 14 (some 79) fun K hK => ?_
            rw [if_pos (by rfl)]
            refine wp_append_rd (.tmp 75) (.tmp 78) rfl rfl o75 (l := O.drop a) (A := A2) (cap := cO - a) (by rw [List.length_drop]; rfl) (hR2d.below bw12) (by simp; omega) bw12.size ?_
            intro v79 w3 o79 bw3 _
            have bw13 := bw12.trans bw3
            have hH2 := hHeld
            refine hK.out _ _ ⟨pw_cell_below bw13 hHeld0.1, pw_cell_below bw13 hHeld0.2⟩ (fun hHeld => ?_)
            clear hK K hH2
            refine norm_ (a' := ?_) ?_ ?_
            rotate_left
            ·simp only [Act.put]
             rfl
            refine pure_ (i := 15) (N := some 5) (v := ?_) (a' := ?_) #[true, true, true, true, true, true, true, true, true, true, true, true, true, true, true, true] rfl rfl (by kernel_rfl) (fun _ _ _ h => h) (Or.inl ⟨by rfl, ?_⟩) ?_ ?_
            rotate_left
            ·intro w'
             go_simp
             with_reducible rfl
            rotate_left
            ·simp only [Act.put]
             rfl
            refine done_ (by kernel_rfl) ?_
            have hown3 : Own w3 Wd.heap.size v79 (ins O l[j]) := by
             unfold ins
             rw [← (show a = _ from HA), if_neg (show ¬ _ from HNE)]
             rw [List.append_assoc] at o79
             exact o79
            go_wp2_with fail
            go_roundg (g0 - 1)
            case measure => have := (show _ = _ from HK); omega
            case rel => exact ⟨j + 1, by simp, by omega, by have := (show _ = _ from HK); omega, by rw [HN]; exact hown3.mono hb6d.size, below_then hb6d hb6d.size bw13⟩
           ·intro hJ
            refine two_ (i := 0) (j := 9) (Ni := some 65) (Nj := some 74) #[true, true, true, true, false, true, true, true, true, false, false, true, true, true, false, false] #[false, true, true, true, false, true, true, true, true, true, false, true, true, true, false, false] rfl rfl rfl rfl (by kernel_rfl) (by decide) (by decide) (fun K hK => ?_) (fun K hK => ?_)
            ·skip
             refine value_ (v := .slice (some ⟨(Wd).heap.size, 0, none⟩) 0 0) (w1 := (Wd).alloc (.cells #[] 113)) (by rfl) rfl (by go_simp; try rfl) ?_
             have ba : Below Wd.heap.size Wd (Wd.alloc (.cells #[] 113)) := (Below.refl _ _).alloc (Nat.le_refl _) _
             have oa : Own (Wd.alloc (.cells #[] 113)) Wd.heap.size (.slice (some ⟨Wd.heap.size, 0, none⟩) 0 0) [] := Own.made (Nat.le_refl _)
             have hH2 := hHeld
             refine hK.out _ _ ⟨pw_cell_below ba hHeld0.1, pw_cell_below ba hHeld0.2⟩ (fun hHeld => ?_)
             clear hK K hH2
             refine norm_ (a' := ?_) ?_ ?_
             rotate_left
             ·simp only [Act.put, List.setIfInBounds_toArray, List.set_cons_zero, List.set_cons_succ]
              rfl
             refine two_ (i := 4) (j := 9) (Ni := some 69) (Nj := some 74) #[true, true, true, true, true, true, true, true, true, false, false, true, true, true, false, false] #[true, true, true, true, false, true, true, true, true, true, false, true, true, true, false, false] rfl rfl rfl rfl (by kernel_rfl) (by decide) (by decide) (fun K hK => ?_) (fun K hK => ?_)
             ·rw [if_pos (by rfl)]
              refine wp_append_rd (.tmp 65) (.tmp 68) rfl (v := .slice (some ⟨Wd.heap.size, 0, none⟩) 0 0) rfl oa (l := O.take a) (A := AO) (cap := cO) (by rw [List.length_take, Nat.min_eq_left hale]; rfl) (hRtd.below ba) (by simp; omega) ba.size ?_
              intro v69 w1 o69 bw1 _
              have bb := ba.trans bw1
              rw [List.nil_append] at o69
              have hH2 := hHeld
              refine hK.out _ _ ⟨pw_cell_below bb hHeld0.1, pw_cell_below bb hHeld0.2⟩ (fun hHeld => ?_)
              clear hK K hH2
              refine norm_ (a' := ?_) ?_ ?_
              rotate_left
              ·simp only [Act.put, List.setIfInBounds_toArray]
               rfl
              refine on_ 9 (some 74) fun K hK => ?_
              refine value_ (v := .slice (some ⟨(w1).heap.size, 0, none⟩) 1 1) (w1 := (w1).alloc (.cells #[.int .u32 (un l[j].1), .int .u32 (un l[j].2)] 113)) (by rfl) rfl (by go_simp; try rfl) ?_
              have bd := bb.alloc bb.size (.cells #[.int .u32 (un l[j].1), .int .u32 (un l[j].2)] 113)
              have hH2 := hHeld
              refine hK.out _ _ ⟨pw_cell_below bd hHeld0.1, pw_cell_below bd hHeld0.2⟩ (fun hHeld => ?_)
              clear hK K hH2
              refine norm_ (a' := ?_) ?_ ?_
              rotate_left
              ·simp only [Act.put]
               rfl
              exact norm_ (by first | (simp only [putAll, Act.put, List.setIfInBounds_toArray, List.set_cons_zero, List.set_cons_succ]; done) | (simp only [putAll, Act.put, List.setIfInBounds_toArray, List.set_cons_zero, List.set_cons_succ]; rfl)) (hJ (_, _, _) _ ⟨⟨o69.1.alloc _, o69.2⟩, Own.lit bb.size l[j], bd⟩)
             ·skip
              refine value_ (v := .slice (some ⟨(Wd.alloc (.cells #[] 113)).heap.size, 0, none⟩) 1 1) (w1 := (Wd.alloc (.cells #[] 113)).alloc (.cells #[.int .u32 (un l[j].1), .int .u32 (un l[j].2)] 113)) (by rfl) rfl (by go_simp; try rfl) ?_
              have bb := ba.alloc ba.size (.cells #[.int .u32 (un l[j].1), .int .u32 (un l[j].2)] 113)
              have ob : Own ((Wd.alloc (.cells #[] 113)).alloc (.cells #[.int .u32 (un l[j].1), .int .u32 (un l[j].2)] 113)) Wd.heap.size (.slice (some ⟨Wd.heap.size, 0, none⟩) 0 0) [] := ⟨oa.1.alloc _, oa.2⟩
              have oc : Own ((Wd.alloc (.cells #[] 113)).alloc (.cells #[.int .u32 (un l[j].1), .int .u32 (un l[j].2)] 113)) Wd.heap.size (.slice (some ⟨(Wd.alloc (.cells #[] 113)).heap.size, 0, none⟩) 1 1) [l[j]] := Own.lit ba.size l[j]
              have hH2 := hHeld
              refine hK.out _ _ ⟨pw_cell_below bb hHeld0.1, pw_cell_below bb hHeld0.2⟩ (fun hHeld => ?_)
              clear hK K hH2
              refine norm_ (a' := ?_) ?_ ?_
              rotate_left
              ·simp only [Act.put, List.setIfInBounds_toArray, List.set_cons_zero, List.set_cons_succ]
               rfl
              refine on_ 4 (some 69) fun K hK => ?_
              rw [if_pos (by rfl)]
              refine wp_append_rd (.tmp 65) (.tmp 68) rfl (v := .slice (some ⟨Wd.heap.size, 0, none⟩) 0 0) rfl ob (l := O.take a) (A := AO) (cap := cO) (by rw [List.length_take, Nat.min_eq_left hale]; rfl) (hRtd.below bb) (by simp; omega) bb.size ?_
              intro v69 w1 o69 bw1 hg
              have bd := bb.trans bw1
              rw [List.nil_append] at o69
              have oc2 := oc.kept hg (.inr (by simp [Value.ownBlock]))
              have hH2 := hHeld
              refine hK.out _ _ ⟨pw_cell_below bd hHeld0.1, pw_cell_below bd hHeld0.2⟩ (fun hHeld => ?_)
              clear hK K hH2
              refine norm_ (a' := ?_) ?_ ?_
              rotate_left
              ·simp only [Act.put, List.setIfInBounds_toArray]
               rfl
              exact norm_ (by first | (simp only [putAll, Act.put, List.setIfInBounds_toArray, List.set_cons_zero, List.set_cons_succ]; done) | (simp only [putAll, Act.put, List.setIfInBounds_toArray, List.set_cons_zero, List.set_cons_succ]; rfl)) (hJ (_, _, _) _ ⟨o69, oc2, bd⟩)
            ·skip
             refine value_ (v := .slice (some ⟨(Wd).heap.size, 0, none⟩) 1 1) (w1 := (Wd).alloc (.cells #[.int .u32 (un l[j].1), .int .u32 (un l[j].2)] 113)) (by rfl) rfl (by go_simp; try rfl) ?_
             have ba : Below Wd.heap.size Wd (Wd.alloc (.cells #[.int .u32 (un l[j].1), .int .u32 (un l[j].2)] 113)) := (Below.refl _ _).alloc (Nat.le_refl _) _
             have oa : Own (Wd.alloc (.cells #[.int .u32 (un l[j].1), .int .u32 (un l[j].2)] 113)) Wd.heap.size (.slice (some ⟨Wd.heap.size, 0, none⟩) 1 1) [l[j]] := Own.lit (Nat.le_refl _) l[j]
             have hH2 := hHeld
             refine hK.out _ _ ⟨pw_cell_below ba hHeld0.1, pw_cell_below ba hHeld0.2⟩ (fun hHeld => ?_)
             clear hK K hH2
             refine norm_ (a' := ?_) ?_ ?_
             rotate_left
             ·simp only [Act.put, List.setIfInBounds_toArray, List.set_cons_zero, List.set_cons_succ]
              rfl
             refine on_ 0 (some 65) fun K hK => ?_
             refine value_ (v := .slice (some ⟨(Wd.alloc (.cells #[.int .u32 (un l[j].1), .int .u32 (un l[j].2)] 113)).heap.size, 0, none⟩) 0 0) (w1 := (Wd.alloc (.cells #[.int .u32 (un l[j].1), .int .u32 (un l[j].2)] 113)).alloc (.cells #[] 113)) (by rfl) rfl (by go_simp; try rfl) ?_
             have bb := ba.alloc ba.size (.cells #[] 113)
             have ob : Own ((Wd.alloc (.cells #[.int .u32 (un l[j].1), .int .u32 (un l[j].2)] 113)).alloc (.cells #[] 113)) Wd.heap.size (.slice (some ⟨(Wd.alloc (.cells #[.int .u32 (un l[j].1), .int .u32 (un l[j].2)] 113)).heap.size, 0, none⟩) 0 0) [] := Own.made ba.size
             have oc : Own ((Wd.alloc (.cells #[.int .u32 (un l[j].1), .int .u32 (un l[j].2)] 113)).alloc (.cells #[] 113)) Wd.heap.size (.slice (some ⟨Wd.heap.size, 0, none⟩) 1 1) [l[j]] := ⟨oa.1.alloc _, oa.2⟩
             have hH2 := hHeld
             refine hK.out _ _ ⟨pw_cell_below bb hHeld0.1, pw_cell_below bb hHeld0.2⟩ (fun hHeld => ?_)
             clear hK K hH2
             refine norm_ (a' := ?_) ?_ ?_
             rotate_left
             ·simp only [Act.put, List.setIfInBounds_toArray, List.set_cons_zero, List.set_cons_succ]
              rfl
             refine on_ 4 (some 69) fun K hK => ?_
             rw [if_pos (by rfl)]
             refine wp_append_rd (.tmp 65) (.tmp 68) rfl (v := .slice (some ⟨(Wd.alloc (.cells #[.int .u32 (un l[j].1), .int .u32 (un l[j].2)] 113)).heap.size, 0, none⟩) 0 0) rfl ob (l := O.take a) (A := AO) (cap := cO) (by rw [List.length_take, Nat.min_eq_left hale]; rfl) (hRtd.below bb) (by simp; omega) bb.size ?_
             intro v69 w1 o69 bw1 hg
             have bd := bb.trans bw1
             rw [List.nil_append] at o69
             have oc2 := oc.kept hg (.inr (by simp [Value.ownBlock]))
             have hH2 := hHeld
             refine hK.out _ _ ⟨pw_cell_below bd hHeld0.1, pw_cell_below bd hHeld0.2⟩ (fun hHeld => ?_)
             clear hK K hH2
             refine norm_ (a' := ?_) ?_ ?_
             rotate_left
             ·simp only [Act.put, List.setIfInBounds_toArray]
              rfl
             exact norm_ (by first | (simp only [putAll, Act.put, List.setIfInBounds_toArray, List.set_cons_zero, List.set_cons_succ]; done) | (simp only [putAll, Act.put, List.setIfInBounds_toArray, List.set_cons_zero, List.set_cons_succ]; rfl)) (hJ (_, _, _) _ ⟨o69, oc2, bd⟩)
    ·have e : l.take j = l := List.take_of_length_le (by omega)
     rw [e] at ho
     obtain ⟨A9, c9, rfl, hR9⟩ := ho.slice
     have HO := Lib.hid ho
     clear ho
     generalize insAll l l = K at *
     by_cases hbig : K.length ≤ 64
     ·have HBG := Lib.hid hbig
      go_wp2
      go_ret2
      rw [show leastR l = _ from hleast, if_pos (show K.length ≤ 64 from HBG)]
      exact ⟨_, rfl, HO, hb⟩
     ·have HBG := Lib.hid hbig
      go_wp2
      go_ret2
      rw [show leastR l = _ from hleast, if_neg (show ¬ K.length ≤ 64 from HBG)]
      exact ⟨_, rfl, Own.nil _ _, hb⟩
end Go.Proofs.YtahdjajdaggmjaaGreatDoor
end
section
namespace Go.Proofs.YtahdjajdaggmjaaGreatDoorW.PrintLast
section
variable {P : Program} {ops : Array Oper} {Q : Exit → Act → World → Prop} {md : Region.Mode} {S : World → Prop} {ds : List Nat} {T : Bool × List (List Nat × List Nat)}
end
end Go.Proofs.YtahdjajdaggmjaaGreatDoorW.PrintLast
end
section
namespace Go.Proofs.YtahdjajdaggmjaaGreatDoorW.PrintWords
open Go.RowKit
namespace Kd
section
variable {α : Type} {d : Kd α} {W : World} {g n : Nat} {S ok : Nat → Prop} {A : Option Addr} {ad : Addr} {xs : List α}
end
end Kd
end Go.Proofs.YtahdjajdaggmjaaGreatDoorW.PrintWords
end
section
namespace Go.Proofs.YtahdjajdaggmjaaGreatDoorW.PrintWords
open Go.RowKit
section
variable {w w' u : World} {m B g : Nat} {o : Obj} {row : Option Nat} {S : Nat → Prop} {a : Addr} {v : Value}
end
namespace Kd
section
variable {α : Type} {d : Kd α} {e base n m : Nat} {ok : Nat → Prop} {w w' : World} {v : Value} {A : Option Addr} {xs : List α}
end
end Kd
section
variable {P : Program} {d : Nat} {xs ys : Array Value} {f : Field} {fs : List Field} {a b : Value} {r s : Bool} {w : World}
theorem eqf_last (hn : (f.name == "_") = false) (ha : (part f.type xs f.offset).run P w = .ok a w) (hb : (part f.type ys f.offset).run P w = .ok b w) (he : (Op.equalIn d f.type a b).run P w = .ok r w) : (Op.eqFields d xs ys [f]).run P w = .ok r w := by
 have hn' : f.name ≠ "_" := by simpa using hn
 simp only [Op.eqFields, if_pos hn', Sem.run_bind, ha, hb, he, Result.andThen_ok]
 cases r <;> simp
theorem eqf_cons (hn : (f.name == "_") = false) (ha : (part f.type xs f.offset).run P w = .ok a w) (hb : (part f.type ys f.offset).run P w = .ok b w) (he : (Op.equalIn d f.type a b).run P w = .ok r w) (hr : (Op.eqFields d xs ys fs).run P w = .ok s w) : (Op.eqFields d xs ys (f :: fs)).run P w = .ok (r && s) w := by
 have hn' : f.name ≠ "_" := by simpa using hn
 rw [Op.eqFields]
 simp only [if_pos hn', Sem.run_bind, ha, hb, he, Result.andThen_ok]
 cases r
 ·simp
 ·simpa using hr
theorem eqA_of {t : TypeId} {fs : Array Field} (hu : P.underlying t = some (.struct fs)) (hp : P.stoodInHeld t = false) (h : (Op.eqFields d xs ys fs.toList).run P w = .ok r w) : (Op.equalIn (d + 1) t (.agg xs) (.agg ys)).run P w = .ok r w := by
 have hf : P.fieldsOf t = fs := by simp [Program.fieldsOf, hu]
 rw [run_equalIn_struct (P := P) w d t xs ys (by rw [hf]; exact hu) hp, hf]
 exact h
end
end Go.Proofs.YtahdjajdaggmjaaGreatDoorW.PrintWords
end
