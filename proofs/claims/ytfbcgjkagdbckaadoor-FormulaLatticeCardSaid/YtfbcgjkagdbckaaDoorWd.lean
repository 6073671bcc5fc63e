/-
Words for the walks: numbers as Go's, clauses' cells, small leaves, the bits' count.
-/
import Derived.WalkKit
import Derived.BigQuiet
import Derived.Deep.QuietTactic
import Derived.Laws.StructEq
import Derived.Laws.BitsAllLaws
import Derived.Laws.OwnMore
import Derived.Maps.AppendAt
import Derived.Deep.AppendLies
import Derived.Outline
import Derived.Test.YtfbcgjkagdbckaaDoorProg
import Derived.Test.YtfbcgjkagdbckaaDoorCore
import Derived.Lib.TrailingZeros
import Derived.Lib.BitFns
import Derived.Lib.Tables
/-! Words for the walks: a 32-bit word as the model holds it, its bits. -/
namespace Go.Proofs.YtfbcgjkagdbckaaDoor
open Go.RowKit H

/-- A 32-bit word as a number. -/
def un (x : UInt32) : Int := (x.toNat : Int)
theorem un_range (x : UInt32) : 0 ≤ un x ∧ un x < 4294967296 := by
  have := x.toNat_lt
  unfold un
  omega
theorem un_inj {a b : UInt32} : un a = un b ↔ a = b := by
  unfold un
  rw [Int.ofNat_inj, UInt32.toNat_inj]
theorem un_beq (a b : UInt32) : (un a == un b) = decide (a = b) := by
  rw [Bool.eq_iff_iff]
  simp [un_inj]
theorem un_and (a b : UInt32) : bits .and .u32 (un a) (un b) = un (a &&& b) := by
  unfold un
  rw [u32_and_nat _ _ a.toNat_lt b.toNat_lt, UInt32.toNat_and]
theorem un_or (a b : UInt32) : bits .or .u32 (un a) (un b) = un (a ||| b) := by
  unfold un
  rw [u32_or_nat _ _ a.toNat_lt b.toNat_lt, UInt32.toNat_or]
theorem un_andNot (a b : UInt32) : bits .andNot .u32 (un a) (un b) = un (a &&& ~~~b) := by
  unfold un
  rw [u32_andNot_nat _ _ a.toNat_lt b.toNat_lt, UInt32.toNat_and, UInt32.toNat_not]
  rfl
theorem un_lit (n : Nat) (h : n < 4294967296) : (n : Int) = un (UInt32.ofNat n) := by
  unfold un
  rw [UInt32.toNat_ofNat', Nat.mod_eq_of_lt h]
theorem un_all : (16777215 : Int) = un 16777215 := by decide
theorem un_zero : (0 : Int) = un 0 := by decide

theorem below_then {B : Nat} {w w1 w2 : World} (h : Below B w w1) (hB : B ≤ w1.heap.size) (k : Below w1.heap.size w1 w2) : Below B w w2 := h.trans (k.mono hB)
end Go.Proofs.YtfbcgjkagdbckaaDoor
/-! Words for the walks over clauses: a clause's two cells, a slice that reads as a list of clauses. -/
namespace Go.Proofs.YtfbcgjkagdbckaaDoor
open Go.RowKit H

/-- A clause's two cells. -/
def cc (c : C) : List Value := [.int .u32 (un c.1), .int .u32 (un c.2)]
def flat (l : List C) : List Value := l.flatMap cc
theorem flat_nil : flat [] = [] := rfl
theorem flat_append (l m : List C) : flat (l ++ m) = flat l ++ flat m := by simp [flat]
theorem flat_snoc (l : List C) (c : C) : flat (l ++ [c]) = flat l ++ [.int .u32 (un c.1), .int .u32 (un c.2)] := by simp [flat, cc]
theorem flat_length (l : List C) : (flat l).length = l.length * 2 := by
  induction l with
  | nil => rfl
  | cons c l ih => simp only [flat, List.flatMap_cons, List.length_append] at ih ⊢; rw [ih]; simp [cc]; omega
theorem flat_cons (c : C) (l : List C) : flat (c :: l) = .int .u32 (un c.1) :: .int .u32 (un c.2) :: flat l := rfl
theorem flat_get (l : List C) (j : Nat) (h : j < l.length) : (flat l)[j * 2]? = some (.int .u32 (un l[j].1)) ∧ (flat l)[j * 2 + 1]? = some (.int .u32 (un l[j].2)) := by
  induction l generalizing j with
  | nil => exact absurd h (Nat.not_lt_zero _)
  | cons c l ih =>
    rw [flat_cons]
    cases j with
    | zero => exact ⟨rfl, rfl⟩
    | succ j =>
      have := ih j (by simpa using h)
      rw [show (j + 1) * 2 = j * 2 + 1 + 1 by omega]
      exact this
theorem flat_one (l : List C) : ∀ u ∈ flat l, u.oneCell' = true := by
  intro u hu
  obtain ⟨c, _, hc⟩ := List.mem_flatMap.1 hu
  simp only [cc, List.mem_cons, List.not_mem_nil, or_false] at hc
  rcases hc with rfl | rfl <;> rfl

/-- A slice whose first element lies at A reads as the list l. -/
def Rd (w : World) (A : Option Addr) (l : List C) : Prop :=
  l.length ≤ 70368744177664 ∧ (0 < l.length → ∃ b off, A = some ⟨b, off, none⟩ ∧ ∀ j (h : j < l.length), w.cell? ⟨b, off + j * 2, none⟩ = some (.int .u32 (un l[j].1)) ∧ w.cell? ⟨b, off + j * 2 + 1, none⟩ = some (.int .u32 (un l[j].2)))
theorem Rd.at_ {w : World} {A : Option Addr} {l : List C} (h : Rd w A l) {j : Nat} (hj : j < l.length) :
    ∃ b off, A = some ⟨b, off, none⟩ ∧ w.cell? ⟨b, off + j * 2, none⟩ = some (.int .u32 (un l[j].1)) ∧ w.cell? ⟨b, off + j * 2 + 1, none⟩ = some (.int .u32 (un l[j].2)) := by
  obtain ⟨b, off, hA, hc⟩ := h.2 (by omega)
  exact ⟨b, off, hA, hc j hj⟩
theorem Rd.below {w w1 : World} {A : Option Addr} {l : List C} (h : Rd w A l) (hb : Below w.heap.size w w1) : Rd w1 A l :=
  ⟨h.1, fun hp => by
    obtain ⟨b, off, hA, hc⟩ := h.2 hp
    exact ⟨b, off, hA, fun j hj => ⟨(hb.cell (World.block_lt_of_cell? w _ (hc j hj).1)).trans (hc j hj).1, (hb.cell (World.block_lt_of_cell? w _ (hc j hj).2)).trans (hc j hj).2⟩⟩⟩
theorem Rd.nil (w : World) (A : Option Addr) : Rd w A [] := ⟨by simp, fun h => absurd h (by simp)⟩
theorem Rd.alloc {w : World} {A : Option Addr} {l : List C} (h : Rd w A l) (o : Obj) : Rd (w.alloc o) A l := h.below ((Below.refl _ _).alloc (Nat.le_refl _) _)
theorem Rd.drew {w : World} {A : Option Addr} {l : List C} (h : Rd w A l) : Rd w.drew A l := h
theorem Rd.drewN {w : World} {A : Option Addr} {l : List C} (h : Rd w A l) (n : Nat) : Rd (w.drewN n) A l := h

/-- A slice of the call's own (from block base on) holds the list l. -/
def Own (w : World) (base : Nat) (v : Value) (l : List C) : Prop := w.ownsRow base 60 2 v l.length (flat l) ∧ l.length ≤ 70368744177664
theorem Own.slice {w : World} {base : Nat} {v : Value} {l : List C} (h : Own w base v l) : ∃ A c, v = .slice A l.length c ∧ Rd w A l := by
  rcases Nat.eq_zero_or_pos l.length with h0 | h0
  · have hl : l = [] := List.eq_nil_of_length_eq_zero h0
    subst hl
    rcases h.1.2 with ⟨rfl, _⟩ | ⟨g, cap, cur, rfl, _⟩
    · exact ⟨none, 0, rfl, Rd.nil _ _⟩
    · exact ⟨_, cap, rfl, Rd.nil _ _⟩
  · obtain ⟨g, cap, rfl, _, _⟩ := h.1.form h0
    refine ⟨_, cap, rfl, h.2, fun _ => ⟨g, 0, rfl, fun j hj => ?_⟩⟩
    have hc := h.1.cells (g := g) rfl
    obtain ⟨h1, h2⟩ := flat_get l j hj
    have e : ∀ k, (⟨g, 0, none⟩ : Addr).add k = ⟨g, 0 + k, none⟩ := by intro k; unfold Addr.add; split <;> simp_all
    refine ⟨?_, ?_⟩
    · rw [← e]; exact hc _ _ h1
    · rw [show 0 + j * 2 + 1 = 0 + (j * 2 + 1) by omega, ← e]; exact hc _ _ h2
theorem Own.below {w w1 : World} {base : Nat} {v : Value} {l : List C} (h : Own w base v l) (hb : Below w.heap.size w w1) : Own w1 base v l :=
  ⟨h.1.kept ⟨hb.os, hb.tape, hb.output, hb.size, fun k hk _ => hb.block k hk⟩ (by cases v.ownBlock <;> simp) (row := none), h.2⟩
theorem Own.mono {w : World} {base base' : Nat} {v : Value} {l : List C} (h : Own w base v l) (hb : base' ≤ base) : Own w base' v l := by
  refine ⟨⟨h.1.1, ?_⟩, h.2⟩
  rcases h.1.2 with h1 | ⟨g, cap, cur, h1, h2, h3⟩
  · exact .inl h1
  · exact .inr ⟨g, cap, cur, h1, by omega, h3⟩
theorem Own.nil (w : World) (base : Nat) : Own w base (.slice none 0 0) [] := ⟨World.ownsRow_nil _ _ _ _, by simp⟩

/-- '==' and '!=' between two clauses. -/
theorem eqC (a b : C) (w : World) : (binOp .eql 60 (.agg #[.int .u32 (un a.1), .int .u32 (un a.2)]) (.agg #[.int .u32 (un b.1), .int .u32 (un b.2)])).run Tryd.prog w = .ok (.bool (decide (a = b))) w := by
  have u3 := Tryd.underlying58
  have a3 := Tryd.isAgg58
  have z3 := Tryd.sizeOf58
  have hS : Tryd.prog.underlying 60 = some (.struct (Tryd.prog.fieldsOf 60)) := by kernel_rfl
  have hp : Tryd.prog.stoodInHeld 60 = false := by kernel_rfl
  rw [run_eql_struct, show (10000 : Nat) = 9999 + 1 from rfl, run_equalIn_agg w 9999 60 _ _ hS hp]
  simp only [Program.fieldsOf, Tryd.underlying60]
  go_simp
  obtain ⟨a1, a2⟩ := a
  obtain ⟨b1, b2⟩ := b
  by_cases h1 : a1 = b1 <;> by_cases h2 : a2 = b2 <;> simp [h1, h2, un_inj]
end Go.Proofs.YtfbcgjkagdbckaaDoor
/-! Walks of the small functions on words. -/
namespace Go.Proofs.YtfbcgjkagdbckaaDoor
open Go.RowKit H

theorem r1_andNot (x : UInt32) : decide (x &&& ~~~16777215 = 0) = r1 x := by
  rw [Bool.eq_iff_iff, decide_eq_true_eq, r1_iff]
  constructor
  · intro h i hi
    have := congrArg (fun s => tb s i) h
    simp only [tb_and, tb_not, tb_zero, hi, Bool.true_and] at this
    have hl := tb_lt hi
    rw [show tb (16777215 : UInt32) i = decide (i < 24) from tb_M24 i] at this
    simp [hl] at this
    exact this
  · intro h
    refine tb_ext fun i => ?_
    rw [tb_and, tb_not, tb_zero, show tb (16777215 : UInt32) i = decide (i < 24) from tb_M24 i]
    cases hb : tb x i
    · rfl
    · simp [h i hb]

theorem mask_Right (x : UInt32) (w : World) : Calls Tryd.prog 75 #[.int .u32 (un x)] w fun e w' => e = .returned (.bool (r1 x)) ∧ w = w' := by
  have h1 : bits .andNot .u32 (un x) 16777215 = un (x &&& ~~~16777215) := by rw [un_all, un_andNot]
  have h2 : (un (x &&& ~~~16777215) == 0) = r1 x := by rw [un_zero, un_beq, r1_andNot]
  go_enter Tryd.func75, Tryd.ntmps75
  go_wp2
  go_ret
  exact ⟨rfl, rfl⟩
def dimI (i : Int) : Bool := decide (0 ≤ i ∧ i < 24)
def hasI (x : UInt32) (i : Int) : Bool := dimI i && x.toNat.testBit i.toNat

end Go.Proofs.YtfbcgjkagdbckaaDoor
/-! PLAIN LAW: the dimensions of a word, from the lowest on: the lowest bit, taken off, leaves the others. -/
namespace Go.Proofs.YtfbcgjkagdbckaaDoor.H

/-- The lowest bit's place. -/
def low (s : UInt32) : Nat := Lib.ctzFrom 32 s.toNat
theorem low_spec {s : UInt32} (h : s ≠ 0) : low s < 32 ∧ ∃ m, s.toNat = 2 ^ low s * (2 * m + 1) := by
  have h0 : 0 < s.toNat := by
    rcases Nat.eq_zero_or_pos s.toNat with h1 | h1
    · exact absurd (UInt32.toNat_inj.1 (by rw [h1]; rfl)) h
    · exact h1
  obtain ⟨m, hm, hk⟩ := Lib.ctzFrom_spec 32 s.toNat h0 s.toNat_lt
  exact ⟨hk, m, hm⟩
theorem tb_low {s : UInt32} (h : s ≠ 0) : tb s (low s) = true ∧ ∀ i, i < low s → tb s i = false := by
  obtain ⟨_, m, hm⟩ := low_spec h
  unfold tb
  rw [hm]
  refine ⟨?_, fun i hi => ?_⟩
  · rw [Nat.mul_comm, Nat.testBit_mul_two_pow]
    simp [Nat.testBit_zero]
  · rw [Nat.mul_comm, Nat.testBit_mul_two_pow]
    simp
    omega
/-- s & (s - 1) -/
theorem tb_drop_low {s : UInt32} (h : s ≠ 0) (i : Nat) : tb (s &&& (s - 1)) i = (tb s i && decide (i ≠ low s)) := by
  obtain ⟨hk, m, hm⟩ := low_spec h
  have h1 : 1 ≤ s.toNat := by
    rw [hm]
    exact Nat.mul_pos (Nat.two_pow_pos _) (by omega)
  have hsub : (s - 1).toNat = s.toNat - 1 := by
    rw [UInt32.toNat_sub_of_le]
    · rfl
    · exact h1
  rw [tb_and]
  unfold tb
  rw [hsub, hm]
  have hp := Nat.two_pow_pos (low s)
  have e : 2 ^ low s * (2 * m + 1) - 1 = 2 ^ low s * (2 * m) + (2 ^ low s - 1) := by rw [Nat.mul_add, Nat.mul_one]; omega
  rw [e, Nat.testBit_two_pow_mul_add _ (by omega), Nat.mul_comm (2 ^ low s), Nat.testBit_mul_two_pow]
  by_cases hi : i < low s
  · simp [hi, show ¬ low s ≤ i by omega]
  · by_cases he : i = low s
    · subst he
      simp [Nat.testBit_zero]
    · obtain ⟨j, rfl⟩ : ∃ j, i = low s + (j + 1) := ⟨i - low s - 1, by omega⟩
      have e3 : low s + (j + 1) - low s = j + 1 := by omega
      have d1 : (2 * m + 1) / 2 = m := by omega
      have d2 : (2 * m) / 2 = m := by omega
      rw [if_neg hi, e3, Nat.testBit_succ, Nat.testBit_succ, d1, d2]
      simp
theorem dims_low {s : UInt32} (h : s ≠ 0) (hs : r1 s = true) : dims s = low s :: dims (s &&& (s - 1)) := by
  obtain ⟨h1, h2⟩ := tb_low h
  have hl : low s < 24 := r1_iff.1 hs _ h1
  unfold dims
  have e : List.range 24 = List.range (low s) ++ low s :: (List.range (23 - low s)).map (low s + 1 + ·) := by
    have a := @List.range_add (low s) (24 - low s)
    rw [show low s + (24 - low s) = 24 by omega] at a
    rw [a]
    congr 1
    rw [show 24 - low s = (23 - low s) + 1 by omega, List.range_succ_eq_map]
    simp only [List.map_cons, List.map_map, Nat.add_zero]
    congr 1
    refine List.map_congr_left fun x _ => ?_
    show low s + (x + 1) = low s + 1 + x
    omega
  rw [e, List.filter_append, List.filter_append, List.filter_cons, List.filter_cons]
  have f1 : (List.range (low s)).filter (fun i => tb s i) = [] := by
    rw [List.filter_eq_nil_iff]
    intro i hi
    rw [h2 i (by simpa using hi)]
    simp
  have f2 : (List.range (low s)).filter (fun i => tb (s &&& (s - 1)) i) = [] := by
    rw [List.filter_eq_nil_iff]
    intro i hi
    rw [tb_drop_low h, h2 i (by simpa using hi)]
    simp
  have f3 : tb (s &&& (s - 1)) (low s) = false := by rw [tb_drop_low h]; simp
  rw [f1, f2, h1, f3]
  simp only [List.nil_append, if_true, Bool.false_eq_true, if_false]
  congr 1
  refine List.filter_congr fun i hi => ?_
  obtain ⟨x, _, rfl⟩ := List.mem_map.1 hi
  rw [tb_drop_low h]
  simp
  intro _
  omega
theorem r1_drop_low {s : UInt32} (hs : r1 s = true) : r1 (s &&& (s - 1)) = true := by
  rw [r1_iff] at *
  intro i hi
  rw [tb_and, Bool.and_eq_true] at hi
  exact hs i hi.1
theorem dims_zero : dims 0 = [] := by
  unfold dims
  rw [List.filter_eq_nil_iff]
  intro i _
  rw [tb_zero]
  simp
theorem tb_mask (s : UInt32) (i : Nat) : tb (s &&& 16777215) i = (tb s i && decide (i < 24)) := by rw [tb_and, show tb (16777215 : UInt32) i = decide (i < 24) from tb_M24 i]
theorem r1_mask (s : UInt32) : r1 (s &&& 16777215) = true := by
  rw [r1_iff]
  intro i hi
  rw [tb_mask] at hi
  simp at hi
  exact hi.2
theorem dims_mask (s : UInt32) : dims (s &&& 16777215) = dims s := by
  unfold dims
  refine List.filter_congr fun i hi => ?_
  rw [tb_mask]
  have : i < 24 := by simpa using hi
  simp [this]
theorem dims_inj {a b : UInt32} (ha : r1 a = true) (hb : r1 b = true) (h : dims a = dims b) : a = b := by
  refine tb_ext fun i => ?_
  rw [Bool.eq_iff_iff]
  have key : ∀ i, i ∈ dims a ↔ i ∈ dims b := fun i => by rw [h]
  constructor
  · intro hi; exact (mem_dims.1 ((key i).1 (mem_dims.2 ⟨r1_iff.1 ha i hi, hi⟩))).2
  · intro hi; exact (mem_dims.1 ((key i).2 (mem_dims.2 ⟨r1_iff.1 hb i hi, hi⟩))).2
end Go.Proofs.YtfbcgjkagdbckaaDoor.H
/-! Walks: math/bits.OnesCount32. -/
namespace Go.Proofs.YtfbcgjkagdbckaaDoor
open Go.RowKit H

theorem pop_fold : (⟨(List.append (List.append [0, 1, 1, 2, 1, 2, 2, 3, 1, 2, 2, 3, 2, 3, 3, 4, 1, 2, 2, 3, 2, 3, 3, 4, 2, 3, 3, 4, 3, 4, 4, 5, 1, 2, 2, 3, 2, 3, 3, 4, 2, 3, 3, 4, 3, 4, 4, 5, 2, 3, 3, 4, 3, 4, 4, 5, 3, 4, 4, 5, 4, 5, 5, 6] [1, 2, 2, 3, 2, 3, 3, 4, 2, 3, 3, 4, 3, 4, 4, 5, 2, 3, 3, 4, 3, 4, 4, 5, 3, 4, 4, 5, 4, 5, 5, 6, 2, 3, 3, 4, 3, 4, 4, 5, 3, 4, 4, 5, 4, 5, 5, 6, 3, 4, 4, 5, 4, 5, 5, 6, 4, 5, 5, 6, 5, 6, 6, 7]) (List.append [1, 2, 2, 3, 2, 3, 3, 4, 2, 3, 3, 4, 3, 4, 4, 5, 2, 3, 3, 4, 3, 4, 4, 5, 3, 4, 4, 5, 4, 5, 5, 6, 2, 3, 3, 4, 3, 4, 4, 5, 3, 4, 4, 5, 4, 5, 5, 6, 3, 4, 4, 5, 4, 5, 5, 6, 4, 5, 5, 6, 5, 6, 6, 7] [2, 3, 3, 4, 3, 4, 4, 5, 3, 4, 4, 5, 4, 5, 5, 6, 3, 4, 4, 5, 4, 5, 5, 6, 4, 5, 5, 6, 5, 6, 6, 7, 3, 4, 4, 5, 4, 5, 5, 6, 4, 5, 5, 6, 5, 6, 6, 7, 4, 5, 5, 6, 5, 6, 6, 7, 5, 6, 6, 7, 6, 7, 7, 8])).toArray⟩ : ByteArray) = Lib.pop8tab := by rfl
theorem and255 (x : Int) (h0 : 0 ≤ x) (h1 : x < 4294967296) : bits .and .u32 x 255 = x % 256 := by
  obtain ⟨n, rfl⟩ := Int.eq_ofNat_of_zero_le h0
  have := u32_and_nat n 255 (by omega) (by omega)
  rw [show ((255 : Nat) : Int) = 255 from rfl] at this
  rw [this, Nat.and_two_pow_sub_one_eq_mod n 8]
  omega

def pops (x : Nat) (l : List Nat) : Nat := (l.filter fun i => x.testBit i).length
theorem pop8_bits : ∀ b : Fin 256, Lib.pop8 (b.val : Int) = ((pops b.val (List.range 8) : Nat) : Int) := by decide +kernel
theorem pops_le (x : Nat) (l : List Nat) : pops x l ≤ l.length := List.length_filter_le _ _
theorem pops_byte (x k : Nat) : Lib.pop8 ((x / 2 ^ k % 256 : Nat) : Int) = ((pops x ((List.range 8).map (k + ·)) : Nat) : Int) := by
  rw [pop8_bits ⟨x / 2 ^ k % 256, by omega⟩]
  unfold pops
  rw [List.filter_map, List.length_map]
  congr 2
  refine List.filter_congr fun i hi => ?_
  have : i < 8 := by simpa using hi
  show (x / 2 ^ k % 2 ^ 8).testBit i = x.testBit (k + i)
  rw [Nat.testBit_mod_two_pow, Nat.testBit_div_two_pow, Nat.add_comm]
  simp [this]
theorem pops_split (x : Nat) : pops x (List.range 32) = pops x ((List.range 8).map (24 + ·)) + pops x ((List.range 8).map (16 + ·)) + pops x ((List.range 8).map (8 + ·)) + pops x ((List.range 8).map (0 + ·)) := by
  unfold pops
  rw [show List.range 32 = (List.range 8).map (0 + ·) ++ ((List.range 8).map (8 + ·) ++ ((List.range 8).map (16 + ·) ++ (List.range 8).map (24 + ·))) from by decide]
  simp only [List.filter_append, List.length_append]
  omega
theorem pops_sum (x : Nat) (h : x < 4294967296) :
    ((Lib.pop8 ((x : Int) / 16777216) + Lib.pop8 ((x : Int) / 65536 % 256) + Lib.pop8 ((x : Int) / 256 % 256) + Lib.pop8 ((x : Int) % 256)) % 256) = ((pops x (List.range 32) : Nat) : Int) := by
  have e3 : (x : Int) / 16777216 = ((x / 2 ^ 24 % 256 : Nat) : Int) := by omega
  have e2 : (x : Int) / 65536 % 256 = ((x / 2 ^ 16 % 256 : Nat) : Int) := by omega
  have e1 : (x : Int) / 256 % 256 = ((x / 2 ^ 8 % 256 : Nat) : Int) := by omega
  have e0 : (x : Int) % 256 = ((x / 2 ^ 0 % 256 : Nat) : Int) := by omega
  rw [e3, e2, e1, e0, pops_byte, pops_byte, pops_byte, pops_byte, pops_split]
  have b3 := pops_le x ((List.range 8).map (24 + ·))
  have b2 := pops_le x ((List.range 8).map (16 + ·))
  have b1 := pops_le x ((List.range 8).map (8 + ·))
  have b0 := pops_le x ((List.range 8).map (0 + ·))
  rw [List.length_map, List.length_range] at b3 b2 b1 b0
  omega

set_option maxHeartbeats 8000000 in
set_option maxRecDepth 100000 in
attribute [local go_sem high] pop_fold in
theorem bits_ones_walk (x : Int) (w : World) (h0 : 0 ≤ x) (h1 : x < 4294967296) : Calls Tryd.prog 99 #[.int .u32 x] w fun e w' => e = .returned (.int .i64 ((Lib.pop8 (x / 16777216) + Lib.pop8 (x / 65536 % 256) + Lib.pop8 (x / 256 % 256) + Lib.pop8 (x % 256)) % 256)) ∧ Below w.heap.size w w' := by
  have a1 := and255 (x / 65536) (by omega) (by omega)
  have a2 := and255 (x / 256) (by omega) (by omega)
  have a3 := and255 x (by omega) (by omega)
  have b0 : 0 ≤ x / 16777216 := by omega
  have b1 : x / 16777216 ≤ 255 := by omega
  go_enter Tryd.func99, Tryd.ntmps99
  go_wp2
  go_quiet (fail)
  go_wp2
  go_ret
  exact ⟨rfl, (Below.refl w.heap.size w).trans ⟨rfl, rfl, rfl, Nat.le_refl _, fun _ _ => rfl⟩⟩
theorem bits_ones (x : Nat) (w : World) (h1 : x < 4294967296) : Calls Tryd.prog 99 #[.int .u32 x] w fun e w' => e = .returned (.int .i64 (pops x (List.range 32) : Nat)) ∧ Below w.heap.size w w' := by
  rw [← pops_sum x h1]
  exact bits_ones_walk x w (by omega) (by omega)
end Go.Proofs.YtfbcgjkagdbckaaDoor
