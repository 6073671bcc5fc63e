/-
How an argument that is a slice of entries reads (trees of terms), and what the form's bulk says of it.
-/
import Derived.Deep.Slices
import Derived.Lib.SmallJoins
import Derived.Deep.Strs
import Derived.ChangeSame
import Derived.ChangeOld
import Derived.OpenShut
import Derived.Test.YtahdjajdaggmjaaGreatDoorRows
import Derived.Test.YtahdjajdaggmjaaGreatDoorZwr
import Derived.Test.YtahdjajdaggmjaaGreatDoorXPax2
import Derived.Test.YtahdjajdaggmjaaGreatDoorOpenB
section
set_option linter.unusedVariables false
set_option linter.unusedSimpArgs false
namespace Go.Proofs.YtahdjajdaggmjaaGreatDoor
open Go.RowKit Go.ChangeShapes Go.WideShapes Go.ChangeAt
open Go.Proofs.YtahdjajdaggmjaaGreatDoor.XPa Go.Proofs.YtahdjajdaggmjaaGreatDoorW.PrintWords
theorem laidOutAll : laidOutB Tryz.prog = true := by kernel_rfl
mutual
def bkT : Tm → Nat
 | ⟨_, _, s, r, ks, bs⟩ => 7 + s.size + 3 * r.length + bkL ks + bkB bs
def bkL : List Tm → Nat
 | [] => 0
 | t :: r => bkT t + bkL r
def bkB : List Br → Nat
 | [] => 0
 | b :: r => bkR b + bkB r
def bkR : Br → Nat
 | ⟨f, ks⟩ => 3 + 3 * f.length + bkL ks
end
def bkE (x : S51) : Nat := x.f0.size + bkT x.f1 + bkT x.f2
def bkS (l : List S51) : Nat := (l.map bkE).sum
def cl32 (x : Cl) : Bool := decide (0 ≤ x.f0 ∧ x.f0 < 4294967296 ∧ 0 ≤ x.f1 ∧ x.f1 < 4294967296)
mutual
def uT : Tm → Bool
 | ⟨_, _, _, r, ks, bs⟩ => r.all cl32 && (uL ks && uB bs)
def uL : List Tm → Bool
 | [] => true
 | t :: r => uT t && uL r
def uB : List Br → Bool
 | [] => true
 | b :: r => uR b && uB r
def uR : Br → Bool
 | ⟨f, ks⟩ => f.all cl32 && uL ks
end
def uE (x : S51) : Bool := uT x.f1 && uT x.f2
theorem uL_all : ∀ l : List Tm, uL l = l.all uT
 | [] => by simp [uL]
 | t :: r => by simp [uL, uL_all r]
theorem uB_all : ∀ l : List Br, uB l = l.all uR
 | [] => by simp [uB]
 | t :: r => by simp [uB, uB_all r]
theorem bkL_sum : ∀ l : List Tm, bkL l = (l.map bkT).sum
 | [] => by simp [bkL]
 | t :: r => by simp [bkL, bkL_sum r]
theorem bkB_sum : ∀ l : List Br, bkB l = (l.map bkR).sum
 | [] => by simp [bkB]
 | t :: r => by simp [bkB, bkB_sum r]
theorem ub_append {H : Type} (l r : List (DataW H)) : Rows.uptoBulkAll (l ++ r) = Rows.uptoBulkAll l + Rows.uptoBulkAll r := by
 induction l with
 | nil => simp [Rows.uptoBulkAll]
 | cons x l ih => simp only [List.cons_append, Rows.uptoBulkAll, ih]; omega
theorem six_of_len {α : Type} {l : List α} (h : l.length = 6) : ∃ a b c d e f, l = [a, b, c, d, e, f] := by
 match l, h with
 | [a, b, c, d, e, f], _ => exact ⟨a, b, c, d, e, f, rfl⟩
theorem two_of_len {α : Type} {l : List α} (h : l.length = 2) : ∃ a b, l = [a, b] := by
 match l, h with
 | [a, b], _ => exact ⟨a, b, rfl⟩
section
variable {G : Type} {enc : TypeId × Value → G} {P : Program} {w : World} {base : Nat} {spare : Nat → Bool} {held : Bool}
theorem trod_struct6 {t : TypeId} {f0 f1 f2 f3 f4 f5 : Field} {fuel : Nat} {cs : List Value} {x : DataW G × List MemPlace} (ht : P.underlying t = some (.struct #[f0, f1, f2, f3, f4, f5])) (h : DataW.trod enc P w base spare held fuel t cs = some x) :
  ∃ y0 y1 y2 y3 y4 y5 n, x.1 = .agg [y0.1, y1.1, y2.1, y3.1, y4.1, y5.1] ∧ cs.length = P.cellsOf t ∧ DataW.trod enc P w base spare held n f0.type ((cs.drop f0.offset).take (P.cellsOf f0.type)) = some y0 ∧
   DataW.trod enc P w base spare held n f1.type ((cs.drop f1.offset).take (P.cellsOf f1.type)) = some y1 ∧ DataW.trod enc P w base spare held n f2.type ((cs.drop f2.offset).take (P.cellsOf f2.type)) = some y2 ∧
   DataW.trod enc P w base spare held n f3.type ((cs.drop f3.offset).take (P.cellsOf f3.type)) = some y3 ∧ DataW.trod enc P w base spare held n f4.type ((cs.drop f4.offset).take (P.cellsOf f4.type)) = some y4 ∧ DataW.trod enc P w base spare held n f5.type ((cs.drop f5.offset).take (P.cellsOf f5.type)) = some y5 := by
 obtain ⟨xs, n, _, rfl, hl, hlen, hf⟩ := DataW.trod_struct ht h
 match xs, hlen with
 | [y0, y1, y2, y3, y4, y5], _ => exact ⟨y0, y1, y2, y3, y4, y5, n, by simp, hl, by simpa using hf 0 f0 rfl, by simpa using hf 1 f1 rfl, by simpa using hf 2 f2 rfl, by simpa using hf 3 f3 rfl, by simpa using hf 4 f4 rfl, by simpa using hf 5 f5 rfl⟩
theorem open_rowG {α : Type} (d : Kd α) (wt : α → Nat) (pr : α → Bool) {st e : TypeId} (hst : P.underlying st = some (.slice e)) (hce : P.cellsOf e = d.sz) {fuel : Nat} {cs : List Value} {x : DataW G × List MemPlace}
  (H : ∀ (n : Nat) (c : List Value) (y : DataW G × List MemPlace), Rows.uptoBulk y.1 < Rows.uptoBulk x.1 → DataW.trod enc P w base spare held n e c = some y → ∃ a, d.K w a c ∧ wt a ≤ Rows.uptoBulk y.1 ∧ pr a = true)
  (h : DataW.trod enc P w base spare held fuel st cs = some x) :
  ∃ A cap l, cs = [.slice A l.length cap] ∧ l.length ≤ cap ∧ d.C w A l.length l ∧ (l.map wt).sum + 1 ≤ Rows.uptoBulk x.1 ∧ l.all pr = true := by
 rcases DataW.trod_slice hst h with ⟨rfl, rfl⟩ | ⟨a, len, cap, elems, rest, n, _, rfl, rfl, hb, hl, hm, hlen, hel, hsp, hns⟩
 ·exact ⟨none, 0, [], rfl, Nat.le_refl _, ⟨rfl, by simp, fun h => absurd h (by simp)⟩, by simp [Rows.uptoBulk], rfl⟩
 ·have hx : Rows.uptoBulkAll (elems.map (·.1)) + 1 ≤ Rows.uptoBulk (DataW.slice (elems.map (·.1)) (rest.map (·.1))) := by
   rw [Rows.uptoBulk]; omega
  have key : ∀ n', n' ≤ len → ∃ l : List α, l.length = n' ∧ (∀ (j : Nat) (p : α), l[j]? = some p → ∃ c, c.length = d.sz ∧ d.K w p c ∧ ∀ (i : Nat) (u : Value), c[i]? = some u → w.cell? (a.add (j * d.sz + i)) = some u) ∧ (l.map wt).sum ≤ Rows.uptoBulkAll ((elems.take n').map (·.1)) ∧ l.all pr = true := by
   intro n'
   induction n' with
   | zero => exact fun _ => ⟨[], rfl, fun j p hj => by simp at hj, by simp, rfl⟩
   | succ i ih =>
    intro hi
    obtain ⟨l, h1, h2, h3, hpr⟩ := ih (by omega)
    have hi2 : i < elems.length := by omega
    have he := hel i (by omega)
    rw [List.getElem?_eq_getElem hi2] at he
    obtain ⟨c, hc, ht⟩ := Option.bind_eq_some_iff.1 he
    have htake : (elems.take (i + 1)).map (·.1) = (elems.take i).map (·.1) ++ [elems[i].1] := by
     rw [List.take_succ_eq_append_getElem hi2, List.map_append]; rfl
    have hle : Rows.uptoBulkAll ((elems.take (i + 1)).map (·.1)) ≤ Rows.uptoBulkAll (elems.map (·.1)) := by
     conv => rhs; rw [← List.take_append_drop (i + 1) elems, List.map_append, ub_append]
     omega
    rw [htake, ub_append] at hle
    have h1e : Rows.uptoBulkAll [elems[i].1] = Rows.uptoBulk elems[i].1 := by simp [Rows.uptoBulkAll]
    rw [h1e] at hle
    obtain ⟨q, hq, hw, hqp⟩ := H n c elems[i] (by show Rows.uptoBulk elems[i].1 < Rows.uptoBulk (DataW.slice (elems.map (·.1)) (rest.map (·.1))); omega) ht
    refine ⟨l ++ [q], by simp [h1], fun j p hj => ?_, ?_, by rw [List.all_append, hpr]; simp [hqp]⟩
    ·rcases Nat.lt_or_ge j l.length with hj2 | hj2
     ·rw [List.getElem?_append_left hj2] at hj
      exact h2 j p hj
     ·rw [List.getElem?_append_right hj2] at hj
      have h4 : j = i := by
       rcases Nat.lt_or_ge (j - l.length) 1 with h5 | h5
       ·omega
       ·rw [List.getElem?_eq_none (by simpa using h5)] at hj; cases hj
      subst h4
      rw [h1, Nat.sub_self] at hj
      cases hj
      obtain ⟨_, hlen2, hg⟩ := World.cells?_some hc
      refine ⟨c, d.K_len hq, hq, fun k u hk => ?_⟩
      have hk2 : k < d.sz := by
       rw [← d.K_len hq]
       exact (List.getElem?_eq_some_iff.1 hk).1
      have h3 := hg k (by rw [hce]; exact hk2)
      rw [hk] at h3
      rw [← h3, hce, Addr.add_add]
    ·rw [htake, ub_append, h1e, List.map_append, List.sum_append]
     simp only [List.map_cons, List.map_nil, List.sum_cons, List.sum_nil]
     omega
  obtain ⟨l, h1, h2, h3, hpr⟩ := key len (Nat.le_refl _)
  rw [List.take_of_length_le (by omega)] at h3
  subst h1
  refine ⟨some a, cap, l, rfl, hl, ⟨rfl, by unfold maxLen at hm; omega, fun _ => ⟨a, rfl, h2⟩⟩, ?_, hpr⟩
  exact Nat.le_trans (Nat.add_le_add_right h3 1) hx
end
section
variable {G : Type} {enc : TypeId × Value → G} {W : World} {base : Nat} {sp : Nat → Bool} {held : Bool}
theorem wf32 {a : Int} (h : (Lit.int .u32 a).wf = true) : 0 ≤ a ∧ a < 4294967296 := by
 have h' : 0 ≤ a ∧ a ≤ 4294967295 := by simpa [Lit.wf, IntKind.min, IntKind.max, IntKind.bits, IntKind.signed] using h
 omega
set_option maxRecDepth 100000 in
theorem openCl {n : Nat} {cs : List Value} {x : DataW G × List MemPlace} (h : DataW.trod enc Tryz.prog W base sp held n 113 cs = some x) :
  ∃ c : Cl, k113.K W c cs ∧ 3 ≤ Rows.uptoBulk x.1 ∧ cl32 c = true := by
 have hc : Tryz.prog.cellsOf 113 = 2 := by kernel_rfl
 have hc1 : Tryz.prog.cellsOf 33 = 1 := by kernel_rfl
 obtain ⟨y0, y1, m, rfl, hl, h0, h1⟩ := trod_struct2 Tryz.underlying113 h
 obtain ⟨a, ha, e0, wa⟩ := DataW.trod_int Tryz.underlying33 h0
 obtain ⟨b, hb, e1, wb⟩ := DataW.trod_int Tryz.underlying33 h1
 rw [hc] at hl
 rw [hc1] at ha hb
 obtain ⟨u, v, rfl⟩ := two_of_len hl
 simp at ha hb
 subst ha hb
 exact ⟨⟨a, b⟩, k113_mk W ⟨a, b⟩, by rw [e0, e1]; simp [Rows.uptoBulk, Rows.uptoBulkAll], decide_eq_true (by have ra := wf32 wa; have rb := wf32 wb; exact ⟨ra.1, ra.2, rb.1, rb.2⟩)⟩
theorem openCls {n : Nat} {cs : List Value} {x : DataW G × List MemPlace} (h : DataW.trod enc Tryz.prog W base sp held n 45 cs = some x) :
  ∃ A cap l, cs = [.slice A l.length cap] ∧ l.length ≤ cap ∧ k113.C W A l.length l ∧ 3 * l.length + 1 ≤ Rows.uptoBulk x.1 ∧ l.all cl32 = true := by
 obtain ⟨A, cap, l, h1, h2, h3, h4, h5⟩ := open_rowG k113 (fun _ => 3) cl32 Tryz.underlying45 (by kernel_rfl) (fun n c y _ hy => openCl hy) h
 refine ⟨A, cap, l, h1, h2, h3, ?_, h5⟩
 have : (l.map fun _ => 3).sum = 3 * l.length := by
  clear h1 h2 h3 h4 h5
  induction l with
  | nil => rfl
  | cons a l ih => simp only [List.map_cons, List.sum_cons, List.length_cons, ih]; omega
 omega
set_option maxRecDepth 100000 in
theorem openTm : ∀ (N n : Nat) (cs : List Value) (x : DataW G × List MemPlace), Rows.uptoBulk x.1 ≤ N → DataW.trod enc Tryz.prog W base sp held n 49 cs = some x →
  ∃ t : Tm, k49.K W t cs ∧ bkT t ≤ Rows.uptoBulk x.1 ∧ uT t = true := by
 intro N
 induction N using Nat.strongRecOn with
 | _ N ih =>
 intro n cs x hN h
 have hc : Tryz.prog.cellsOf 49 = 6 := by kernel_rfl
 have hci : Tryz.prog.cellsOf 3 = 1 := by kernel_rfl
 have hcs : Tryz.prog.cellsOf 9 = 1 := by kernel_rfl
 have hc3 : Tryz.prog.cellsOf 45 = 1 := by kernel_rfl
 have hc4 : Tryz.prog.cellsOf 46 = 1 := by kernel_rfl
 have hc5 : Tryz.prog.cellsOf 47 = 1 := by kernel_rfl
 obtain ⟨y0, y1, y2, y3, y4, y5, m, hx, hl, h0, h1, h2, h3, h4, h5⟩ := trod_struct6 Tryz.underlying49 h
 have hbx : Rows.uptoBulk x.1 = 1 + Rows.uptoBulk y0.1 + Rows.uptoBulk y1.1 + Rows.uptoBulk y2.1 + Rows.uptoBulk y3.1 + Rows.uptoBulk y4.1 + Rows.uptoBulk y5.1 := by
  rw [hx]; simp [Rows.uptoBulk, Rows.uptoBulkAll]; omega
 obtain ⟨a, e0, d0, _⟩ := DataW.trod_int Tryz.underlying3 h0
 obtain ⟨b, e1, d1, _⟩ := DataW.trod_int Tryz.underlying3 h1
 obtain ⟨s, e2, d2, _⟩ := DataW.trod_string Tryz.underlying9 h2
 obtain ⟨A3, c3, l3, e3, g3, r3, b3, u3⟩ := openCls h3
 have b2 : s.size + 1 = Rows.uptoBulk y2.1 := by rw [d2]; simp [Rows.uptoBulk]
 have b0 : Rows.uptoBulk y0.1 = 1 := by rw [d0]; simp [Rows.uptoBulk]
 have b1 : Rows.uptoBulk y1.1 = 1 := by rw [d1]; simp [Rows.uptoBulk]
 obtain ⟨A4, c4, l4, e4, g4, r4, b4, u4⟩ := open_rowG k49 bkT uT Tryz.underlying46 (by kernel_rfl) (fun n c y hy ht => ih (Rows.uptoBulk y.1) (by omega) n c y (Nat.le_refl _) ht) h4
 obtain ⟨A5, c5, l5, e5, g5, r5, b5, u5⟩ := open_rowG k90 bkR uR Tryz.underlying47 (by kernel_rfl) (fun n c y hy ht => by
  have hcb : Tryz.prog.cellsOf 90 = 2 := by kernel_rfl
  obtain ⟨z0, z1, m2, rfl, hl2, q0, q1⟩ := trod_struct2 Tryz.underlying90 ht
  have hby : Rows.uptoBulk (DataW.agg [z0.1, z1.1]) = 1 + Rows.uptoBulk z0.1 + Rows.uptoBulk z1.1 := by simp [Rows.uptoBulk, Rows.uptoBulkAll]; omega
  have hby2 : Rows.uptoBulk (DataW.agg [z0.1, z1.1]) < Rows.uptoBulk y5.1 := hy
  obtain ⟨B0, k0, f0, p0, u0, v0, w0, x0⟩ := openCls q0
  obtain ⟨B1, k1, f1, p1, u1, v1, w1, x1⟩ := open_rowG k49 bkT uT Tryz.underlying46 (by kernel_rfl) (fun n c y hy ht => ih (Rows.uptoBulk y.1) (by omega) n c y (Nat.le_refl _) ht) q1
  rw [hcb] at hl2
  rw [hc3] at p0
  rw [hc4] at p1
  obtain ⟨u, v, rfl⟩ := two_of_len hl2
  simp at p0 p1
  subst p0 p1
  refine ⟨⟨f0, f1⟩, k90_mk W ⟨f0, f1⟩ u0 v0 u1 v1, ?_, by rw [uR, uL_all, x0, x1]; rfl⟩
  show bkR ⟨f0, f1⟩ ≤ Rows.uptoBulk (DataW.agg [z0.1, z1.1])
  rw [bkR, bkL_sum]
  omega) h5
 rw [hc] at hl
 rw [hci] at e0 e1
 rw [hcs] at e2
 rw [hc3] at e3
 rw [hc4] at e4
 rw [hc5] at e5
 obtain ⟨v0, v1, v2, v3, v4, v5, rfl⟩ := six_of_len hl
 simp at e0 e1 e2 e3 e4 e5
 subst e0 e1 e2 e3 e4 e5
 refine ⟨⟨a, b, s, l3, l4, l5⟩, k49_mk W ⟨a, b, s, l3, l4, l5⟩ g3 r3 g4 r4 g5 r5, ?_, by rw [uT, uL_all, uB_all, u3, u4, u5]; rfl⟩
 rw [bkT, bkL_sum, bkB_sum]
 omega
set_option maxRecDepth 100000 in
theorem openEn {n : Nat} {cs : List Value} {x : DataW G × List MemPlace} (h : DataW.trod enc Tryz.prog W base sp held n 51 cs = some x) :
  ∃ e : S51, k51.K W e cs ∧ bkE e ≤ Rows.uptoBulk x.1 ∧ uE e = true := by
 have hc : Tryz.prog.cellsOf 51 = 13 := by kernel_rfl
 have hct : Tryz.prog.cellsOf 49 = 6 := by kernel_rfl
 have hcs : Tryz.prog.cellsOf 9 = 1 := by kernel_rfl
 obtain ⟨y0, y1, y2, m, rfl, hl, h0, h1, h2⟩ := Go.Deep.trod_struct3 Tryz.underlying51 h
 obtain ⟨s, e0, d0, _⟩ := DataW.trod_string Tryz.underlying9 h0
 obtain ⟨t1, k1, b1, q1⟩ := openTm _ _ _ _ (Nat.le_refl _) h1
 obtain ⟨t2, k2, b2, q2⟩ := openTm _ _ _ _ (Nat.le_refl _) h2
 rw [hc] at hl
 have e0' : cs.take 1 = [.string s] := by rw [hcs] at e0; simpa using e0
 have k1' : k49.K W t1 ((cs.drop 1).take 6) := by rw [hct] at k1; simpa using k1
 have k2' : k49.K W t2 ((cs.drop 7).take 6) := by rw [hct] at k2; simpa using k2
 have hcs2 : cs = cs.take 1 ++ ((cs.drop 1).take 6 ++ (cs.drop 7).take 6) := by
  have h6 : (cs.drop 7).take 6 = cs.drop 7 := List.take_of_length_le (by rw [List.length_drop]; omega)
  have h7 : cs.drop 7 = (cs.drop 1).drop 6 := by rw [List.drop_drop]
  rw [h6, h7, List.take_append_drop, List.take_append_drop]
 refine ⟨⟨s, t1, t2⟩, ⟨cs.take 1, _, hcs2, e0', _, _, rfl, k1', k2'⟩, ?_, by rw [uE, q1, q2]; rfl⟩
 have hb : Rows.uptoBulk (DataW.agg [y0.1, y1.1, y2.1]) = 1 + Rows.uptoBulk y0.1 + Rows.uptoBulk y1.1 + Rows.uptoBulk y2.1 := by simp [Rows.uptoBulk, Rows.uptoBulkAll]; omega
 have b0 : Rows.uptoBulk y0.1 = s.size + 1 := by rw [d0]; simp [Rows.uptoBulk]
 show s.size + bkT t1 + bkT t2 ≤ Rows.uptoBulk (DataW.agg [y0.1, y1.1, y2.1])
 omega
set_option maxRecDepth 100000 in
theorem openEnts {v : Value} {dd : DataW G} {p : List MemPlace} {r : Reach} {b0 : Nat} (hv : Value.okWide Tryz.prog W r b0 22 v) (h : DataW.Trod enc Tryz.prog W 0 sp held 22 v dd p) :
  ∃ (A : Option Addr) (cap : Nat) (l : List S51), v = .slice A l.length cap ∧ l.length ≤ cap ∧ Kd.C k51 W A l.length l ∧ bkS l + 1 ≤ Rows.uptoBulk dd ∧ l.all uE = true := by
 obtain ⟨A, len, cap, rfl⟩ := okWide_slice Tryz.underlying22 hv
 obtain ⟨fuel, hf⟩ := h
 obtain ⟨A2, cap2, l, hcs, h1, h2, h3, h4⟩ := open_rowG k51 bkE uE Tryz.underlying22 (by kernel_rfl) (fun n c y _ hy => openEn hy) hf
 simp [Value.cells] at hcs
 obtain ⟨rfl, rfl, rfl⟩ := hcs
 exact ⟨A, cap, l, rfl, h1, h2, h3, h4⟩
end
end Go.Proofs.YtahdjajdaggmjaaGreatDoor
end
section
set_option linter.unusedVariables false
set_option linter.unusedSimpArgs false
namespace Go.Proofs.YtahdjajdaggmjaaGreatDoor.XPa
open Go.RowKit Go.Proofs.YtahdjajdaggmjaaGreatDoorW.PrintWords Go.Proofs.YtahdjajdaggmjaaGreatDoorW.PrintLast Go.Proofs.YtahdjajdaggmjaaGreatDoorW.PrintMore
def Ev {α : Type} (F : Nat → Option α) (r : α) : Prop := ∃ k0, ∀ k, k0 ≤ k → F k = some r
theorem Ev.up {α : Type} {F G : Nat → Option α} {r : α} (h : Ev G r) (hs : ∀ k, F (k + 1) = G k) : Ev F r := by
 obtain ⟨k0, h0⟩ := h
 refine ⟨k0 + 1, fun k hk => ?_⟩
 obtain ⟨j, rfl⟩ : ∃ j, k = j + 1 := ⟨k - 1, by omega⟩
 rw [hs]
 exact h0 j (by omega)
theorem Ev.same {α : Type} {F G : Nat → Option α} {r : α} (h : Ev G r) (hs : ∀ k, F k = G k) : Ev F r := by
 obtain ⟨k0, h0⟩ := h
 exact ⟨k0, fun k hk => (hs k).trans (h0 k hk)⟩
theorem evU {α : Type} {F G : Nat → Option α} {r : α} (hs : ∀ k, F (k + 1) = G k) (h : Ev G r) : Ev F r := Ev.up h hs
theorem evS {α : Type} {F G : Nat → Option α} {r : α} (hs : ∀ k, F k = G k) (h : Ev G r) : Ev F r := Ev.same h hs
theorem Ev.now {α : Type} (r : α) : Ev (fun _ => some r) r := ⟨0, fun _ _ => rfl⟩
theorem Ev.const {α : Type} {o : Option α} {r : α} (h : o = some r) : Ev (fun _ => o) r := ⟨0, fun _ _ => h⟩
theorem Ev.bind {α β : Type} {F : Nat → Option α} {G : α → Nat → Option β} {a : α} {r : β} (h : Ev F a) (g : Ev (G a) r) : Ev (fun k => (F k).bind fun x => G x k) r := by
 obtain ⟨k0, h0⟩ := h
 obtain ⟨k1, h1⟩ := g
 refine ⟨max k0 k1, fun k hk => ?_⟩
 show (F k).bind _ = _
 rw [h0 k (by omega), Option.bind_some]
 exact h1 k (by omega)
theorem Ev.bindc {α β : Type} {o : Option α} {G : α → Nat → Option β} {a : α} {r : β} (h : o = some a) (g : Ev (G a) r) : Ev (fun k => o.bind fun x => G x k) r := by
 subst h
 exact g
theorem Ev.of {α : Type} {F : Nat → Option α} (hm : ∀ k, LeO (F k) (F (k + 1))) {k : Nat} {r : α} (h : F k = some r) : Ev F r := ⟨k, fun _ hj => at_rounds hm hj h⟩
theorem w64 {a : Int} (h0 : -9223372036854775808 ≤ a) (h1 : a < 9223372036854775808) : wrap64 a = a := by unfold wrap64; omega
theorem w64s {a : Int} (h0 : -1000000 ≤ a) (h1 : a < 1000000) : wrap64 a = a := by unfold wrap64; omega
theorem wadd (a b : Nat) (h : a + b < 1000000) : wrap64 ((a : Int) + (b : Int)) = ((a + b : Nat) : Int) := by unfold wrap64; omega
theorem wsucc (a : Nat) (h : a < 1000000) : wrap64 ((a : Int) + 1) = ((a + 1 : Nat) : Int) := by unfold wrap64; omega
theorem wsub (a b : Nat) (h : b ≤ a) (h2 : a < 1000000) : wrap64 ((a : Int) - (b : Int)) = ((a - b : Nat) : Int) := by unfold wrap64; omega
theorem n0 (a : Nat) : (0 : Int) ≤ (a : Int) := Int.natCast_nonneg a
theorem nlt {a b : Nat} (h : a < b) : (a : Int) < (b : Int) := Int.ofNat_lt.mpr h
theorem nle {a b : Nat} (h : a ≤ b) : (a : Int) ≤ (b : Int) := Int.ofNat_le.mpr h
theorem nnlt {a b : Nat} (h : b ≤ a) : ¬ (a : Int) < (b : Int) := by omega
theorem nnle {a b : Nat} (h : b < a) : ¬ (a : Int) ≤ (b : Int) := by omega
mutual
def wT : Tm → Nat
 | ⟨_, _, s, r, ks, bs⟩ => 1 + r.length + s.size + wL ks + wB bs
def wL : List Tm → Nat
 | [] => 0
 | t :: r => wT t + wL r
def wB : List Br → Nat
 | [] => 0
 | b :: r => wR b + wB r
def wR : Br → Nat
 | ⟨f, ks⟩ => 1 + f.length + wL ks
end
theorem wT_eq (t : Tm) : wT t = 1 + t.f3.length + t.f2.size + wL t.f4 + wB t.f5 := by
 cases t
 rw [wT]
theorem wR_eq (b : Br) : wR b = 1 + b.f0.length + wL b.f1 := by
 cases b
 rw [wR]
theorem wL_nil : wL [] = 0 := by rw [wL]
theorem wL_cons (t : Tm) (r : List Tm) : wL (t :: r) = wT t + wL r := by rw [wL]
theorem wB_nil : wB [] = 0 := by rw [wB]
theorem wB_cons (b : Br) (r : List Br) : wB (b :: r) = wR b + wB r := by rw [wB]
attribute [local irreducible] wT wL wB wR sizeT sizeL sizeB sizeR
theorem drop_at {α : Type} {l : List α} {j : Nat} (h : j < l.length) : l.drop j = l[j] :: l.drop (j + 1) := List.drop_eq_getElem_cons h
def BulkOk (F : Nat → Option Int) (L m n : Nat) : Prop := ∃ r : Nat, Ev F (r : Int) ∧ r ≤ 2 * L + 2 ∧ (r ≤ L → m ≤ r) ∧ n ≤ r
section
variable (L : Nat) (hL : L ≤ 600) (a0 a1 : Int) (a2 : ByteArray) (l3 : List Cl) (l4 : List Tm) (l5 : List Br)
include hL
theorem bulk_in (i : Nat) (hi : i < l5.length) (ih : ∀ t ∈ l5[i].f1, ∀ M : Nat, M ≤ 600 → BulkOk (fun k => r10Bulk.f k t.f0 t.f1 t.f2 t.f3 t.f4 t.f5 (M : Int)) M (wT t) 1)
  (hk : ∀ n : Nat, n ≤ 2 * L + 2 → i + 1 ≤ n → BulkOk (fun k => r10Bulk.l1 k (L : Int) (n : Int) ((i + 1 : Nat) : Int) a0 a1 a2 l3 l4 l5) L (n + wB (l5.drop (i + 1))) n) :
  ∀ (d c : Nat), c + d = l5[i].f1.length → ∀ n : Nat, n ≤ 2 * L + 2 → i + 1 + c ≤ n → BulkOk (fun k => r10Bulk.l2 k (L : Int) (n : Int) (i : Int) (c : Int) a0 a1 a2 l3 l4 l5) L (n + wL (l5[i].f1.drop c) + wB (l5.drop (i + 1))) n := by
 intro d
 induction d with
 | zero =>
  intro c hc n hn hcn
  have EW := Aside0.mk (wsucc i (by omega))
  obtain ⟨r, he, hr, hw, hnr⟩ := hk n hn (by omega)
  refine ⟨r, Ev.up he (fun k => ?_), hr, fun h => ?_, hnr⟩
  ·rw [r10Bulk.l2, if_pos (n0 i), if_pos (nlt hi), rd_T90_at hi, if_neg (nnlt (by omega)), EW.out]
  ·have := hw h
   rw [List.drop_eq_nil_of_le (by omega), wL_nil]
   omega
 | succ d ihd =>
  intro c hc n hn hcn
  have hc2 : c < l5[i].f1.length := by omega
  by_cases hnL : n ≤ L
  ·have E2 := Aside0.mk (wsucc c (by omega))
   obtain ⟨r1, he1, hr1, hw1, hp1⟩ := ih _ (List.getElem_mem hc2) (L - n) (by omega)
   have HW1 := Aside0.mk hw1
   have HE1 := Aside0.mk he1
   clear hw1 he1
   have E1 := Aside0.mk (wadd n r1 (by omega))
   have hs1 : n + r1 ≤ 2 * L + 2 := by omega
   have hs2 : i + 1 + (c + 1) ≤ n + r1 := by omega
   have hs3 : c + 1 + d = l5[i].f1.length := by omega
   obtain ⟨r, he, hr, hw, hnr⟩ := ihd (c + 1) hs3 (n + r1) hs1 hs2
   have HW := Aside0.mk hw
   clear hw
   have hg : Ev ((fun (x : Int) k => r10Bulk.l2 k (L : Int) (wrap64 ((n : Int) + x)) (i : Int) (wrap64 ((c : Int) + 1)) a0 a1 a2 l3 l4 l5) (r1 : Int)) (r : Int) := by
    show Ev (fun k => r10Bulk.l2 k (L : Int) (wrap64 ((n : Int) + (r1 : Int))) (i : Int) (wrap64 ((c : Int) + 1)) a0 a1 a2 l3 l4 l5) (r : Int)
    rw [E1.out, E2.out]
    exact he
   refine ⟨r, Ev.up (Ev.bind (G := fun (x : Int) k => r10Bulk.l2 k (L : Int) (wrap64 ((n : Int) + x)) (i : Int) (wrap64 ((c : Int) + 1)) a0 a1 a2 l3 l4 l5) HE1.out hg) (fun k => ?_), hr, fun h => ?_, by omega⟩
   ·rw [r10Bulk.l2, if_pos (n0 i), if_pos (nlt hi), rd_T90_at hi, if_pos (nlt hc2), if_pos (nle hnL), if_pos (n0 c), rd_T49_at hc2, wsub L n hnL (by omega)]
   ·have h2 := HW.out h
    have h3 := HW1.out (by omega)
    rw [drop_at hc2, wL_cons]
    omega
  ·have EW := Aside0.mk (wsucc i (by omega))
   obtain ⟨r, he, hr, hw, hnr⟩ := hk n hn (by omega)
   refine ⟨r, Ev.up he (fun k => ?_), hr, fun h => ?_, hnr⟩
   ·rw [r10Bulk.l2, if_pos (n0 i), if_pos (nlt hi), rd_T90_at hi, if_pos (nlt hc2), if_neg (nnle (by omega)), EW.out]
   ·omega
theorem bulk_tail (ih : ∀ b ∈ l5, ∀ t ∈ b.f1, ∀ M : Nat, M ≤ 600 → BulkOk (fun k => r10Bulk.f k t.f0 t.f1 t.f2 t.f3 t.f4 t.f5 (M : Int)) M (wT t) 1) :
  ∀ (d j : Nat), j + d = l5.length → ∀ n : Nat, n ≤ 2 * L + 2 → j ≤ n → BulkOk (fun k => r10Bulk.l1 k (L : Int) (n : Int) (j : Int) a0 a1 a2 l3 l4 l5) L (n + wB (l5.drop j)) n := by
 intro d
 induction d with
 | zero =>
  intro j hj n hn hjn
  refine ⟨n, ?_, hn, ?_, Nat.le_refl _⟩
  ·refine Ev.up (G := fun k => r10Bulk.j4 k (L : Int) (n : Int) (j : Int) false a0 a1 a2 l3 l4 l5) ?_ (fun k => by rw [r10Bulk.l1, if_neg (by omega)])
   exact Ev.up (Ev.now _) (fun k => by rw [r10Bulk.j4, if_neg (by simp)])
  ·intro _
   rw [List.drop_eq_nil_of_le (by omega), wB_nil]
   omega
 | succ d ihd =>
  intro j hj n hn hjn
  have hj2 : j < l5.length := by omega
  by_cases hnL : n ≤ L
  ·have up : ∀ {r : Int}, Ev (fun k => r10Bulk.j4 k (L : Int) (n : Int) (j : Int) true a0 a1 a2 l3 l4 l5) r → Ev (fun k => r10Bulk.l1 k (L : Int) (n : Int) (j : Int) a0 a1 a2 l3 l4 l5) r :=
    fun h => Ev.up h (fun k => by rw [r10Bulk.l1, if_pos (by omega), decide_eq_true (by omega)])
   by_cases hf : L < l5[j].f0.length
   ·refine ⟨L + 1, up (Ev.up (Ev.now _) (fun k => ?_)), by omega, fun h => absurd h (by omega), by omega⟩
    rw [r10Bulk.j4, if_pos rfl, if_pos (by omega), if_pos (by omega), rd_T90_at hj2, if_pos (by omega), w64s (by omega) (by omega)]
    rfl
   ·obtain ⟨r, he, hr, hw, hnr⟩ := bulk_in L hL a0 a1 a2 l3 l4 l5 j hj2 (ih _ (List.getElem_mem hj2)) (fun n hn h => ihd (j + 1) (by omega) n hn h) l5[j].f1.length 0 (by omega) (n + 1 + l5[j].f0.length) (by omega) (by omega)
    refine ⟨r, up (Ev.up he (fun k => ?_)), hr, fun h => ?_, by omega⟩
    ·rw [r10Bulk.j4, if_pos rfl, if_pos (by omega), if_pos (by omega), rd_T90_at hj2, if_neg (by omega), w64 (a := (n : Int) + 1) (by omega) (by omega), w64s (by omega) (by omega)]
     rfl
    ·have := hw h
     rw [drop_at hj2, wB_cons, wR_eq]
     rw [List.drop_zero] at this
     omega
  ·refine ⟨n, ?_, hn, fun h => absurd h hnL, Nat.le_refl _⟩
   refine Ev.up (G := fun k => r10Bulk.j4 k (L : Int) (n : Int) (j : Int) false a0 a1 a2 l3 l4 l5) ?_ (fun k => by rw [r10Bulk.l1, if_pos (by omega), decide_eq_false (by omega)])
   exact Ev.up (Ev.now _) (fun k => by rw [r10Bulk.j4, if_neg (by simp)])
theorem bulk_kids (ih4 : ∀ t ∈ l4, ∀ M : Nat, M ≤ 600 → BulkOk (fun k => r10Bulk.f k t.f0 t.f1 t.f2 t.f3 t.f4 t.f5 (M : Int)) M (wT t) 1) (ih : ∀ b ∈ l5, ∀ t ∈ b.f1, ∀ M : Nat, M ≤ 600 → BulkOk (fun k => r10Bulk.f k t.f0 t.f1 t.f2 t.f3 t.f4 t.f5 (M : Int)) M (wT t) 1) :
  ∀ (d j : Nat), j + d = l4.length → ∀ n : Nat, n ≤ 2 * L + 2 → j ≤ n → BulkOk (fun k => r10Bulk.l0 k (L : Int) (n : Int) (j : Int) a0 a1 a2 l3 l4 l5) L (n + wL (l4.drop j) + wB l5) n := by
 intro d
 induction d with
 | zero =>
  intro j hj n hn hjn
  obtain ⟨r, he, hr, hw, hnr⟩ := bulk_tail L hL a0 a1 a2 l3 l4 l5 ih l5.length 0 (by omega) n hn (by omega)
  refine ⟨r, Ev.up (G := fun k => r10Bulk.j2 k (L : Int) (n : Int) a0 a1 a2 l3 l4 l5) (Ev.up he (fun k => by rw [r10Bulk.j2]; rfl)) (fun k => by rw [r10Bulk.l0, if_neg (by omega)]), hr, fun h => ?_, hnr⟩
  have := hw h
  rw [List.drop_eq_nil_of_le (by omega), wL_nil]
  rw [List.drop_zero] at this
  omega
 | succ d ihd =>
  intro j hj n hn hjn
  have hj2 : j < l4.length := by omega
  by_cases hnL : n ≤ L
  ·have E2 := Aside0.mk (wsucc j (by omega))
   obtain ⟨r1, he1, hr1, hw1, hp1⟩ := ih4 _ (List.getElem_mem hj2) (L - n) (by omega)
   have HW1 := Aside0.mk hw1
   have HE1 := Aside0.mk he1
   clear hw1 he1
   have E1 := Aside0.mk (wadd n r1 (by omega))
   have hs1 : n + r1 ≤ 2 * L + 2 := by omega
   have hs2 : j + 1 ≤ n + r1 := by omega
   have hs3 : j + 1 + d = l4.length := by omega
   obtain ⟨r, he, hr, hw, hnr⟩ := ihd (j + 1) hs3 (n + r1) hs1 hs2
   have HW := Aside0.mk hw
   clear hw
   have hg : Ev ((fun (x : Int) k => r10Bulk.l0 k (L : Int) (wrap64 ((n : Int) + x)) (wrap64 ((j : Int) + 1)) a0 a1 a2 l3 l4 l5) (r1 : Int)) (r : Int) := by
    show Ev (fun k => r10Bulk.l0 k (L : Int) (wrap64 ((n : Int) + (r1 : Int))) (wrap64 ((j : Int) + 1)) a0 a1 a2 l3 l4 l5) (r : Int)
    rw [E1.out, E2.out]
    exact he
   refine ⟨r, Ev.up (Ev.bind (G := fun (x : Int) k => r10Bulk.l0 k (L : Int) (wrap64 ((n : Int) + x)) (wrap64 ((j : Int) + 1)) a0 a1 a2 l3 l4 l5) HE1.out hg) (fun k => ?_), hr, fun h => ?_, by omega⟩
   ·rw [r10Bulk.l0, if_pos (nlt hj2), if_pos (nle hnL), if_pos (n0 j), rd_T49_at hj2, wsub L n hnL (by omega)]
   ·have h2 := HW.out h
    have h3 := HW1.out (by omega)
    rw [drop_at hj2, wL_cons]
    omega
  ·obtain ⟨r, he, hr, hw, hnr⟩ := bulk_tail L hL a0 a1 a2 l3 l4 l5 ih l5.length 0 (by omega) n hn (by omega)
   refine ⟨r, Ev.up (G := fun k => r10Bulk.j2 k (L : Int) (n : Int) a0 a1 a2 l3 l4 l5) (Ev.up he (fun k => by rw [r10Bulk.j2]; rfl)) (fun k => by rw [r10Bulk.l0, if_pos (by omega), if_neg (by omega)]), hr, fun h => ?_, hnr⟩
   omega
end
theorem bulk (m : Nat) : ∀ (t : Tm), sizeT t ≤ m → ∀ L : Nat, L ≤ 600 → BulkOk (fun k => r10Bulk.f k t.f0 t.f1 t.f2 t.f3 t.f4 t.f5 (L : Int)) L (wT t) 1 := by
 induction m with
 | zero => exact fun t h => absurd h (by have := sizeT_pos t; omega)
 | succ m ih =>
  intro t ht L hL
  by_cases h1 : L < t.f3.length
  ·refine ⟨L + 1, Ev.up (G := fun k => r10Bulk.j0 k (L : Int) true t.f0 t.f1 t.f2 t.f3 t.f4 t.f5) (Ev.up (Ev.now _) (fun k => ?_)) (fun k => by rw [r10Bulk.f, if_pos (by omega)]), by omega, fun h => absurd h (by omega), by omega⟩
   rw [r10Bulk.j0, if_pos rfl, w64s (by omega) (by omega)]
   rfl
  ·by_cases h2 : L < t.f2.size
   ·refine ⟨L + 1, Ev.up (G := fun k => r10Bulk.j0 k (L : Int) true t.f0 t.f1 t.f2 t.f3 t.f4 t.f5) (Ev.up (Ev.now _) (fun k => ?_)) (fun k => by rw [r10Bulk.f, if_neg (by omega), decide_eq_true (by omega)]), by omega, fun h => absurd h (by omega), by omega⟩
    rw [r10Bulk.j0, if_pos rfl, w64s (by omega) (by omega)]
    rfl
   ·obtain ⟨r, he, hr, hw, hnr⟩ := bulk_kids L hL t.f0 t.f1 t.f2 t.f3 t.f4 t.f5 (fun k hk => ih k (by have := sizeT_kid hk; omega)) (fun b hb k hk => ih k (by have := sizeT_part hb hk; omega)) t.f4.length 0 (by omega) (1 + t.f3.length + t.f2.size) (by omega) (by omega)
    refine ⟨r, Ev.up (G := fun k => r10Bulk.j0 k (L : Int) false t.f0 t.f1 t.f2 t.f3 t.f4 t.f5) (Ev.up he (fun k => ?_)) (fun k => by rw [r10Bulk.f, if_neg (by omega), decide_eq_false (by omega)]), hr, fun h => ?_, by omega⟩
    ·rw [r10Bulk.j0, if_neg (by simp), w64 (a := 1 + (t.f3.length : Int)) (by omega) (by omega), w64s (by omega) (by omega)]
     rfl
    ·have := hw h
     rw [wT_eq]
     rw [List.drop_zero] at this
     omega
theorem Ev.pos {α : Type} {p : Prop} [Decidable p] {F G : Nat → Option α} {r : α} (h : p) (g : Ev F r) : Ev (fun k => if p then F k else G k) r := by
 simp only [if_pos h]
 exact g
theorem Ev.neg {α : Type} {p : Prop} [Decidable p] {F G : Nat → Option α} {r : α} (h : ¬ p) (g : Ev G r) : Ev (fun k => if p then F k else G k) r := by
 simp only [if_neg h]
 exact g
def nmL : List UInt8 → Bool
 | [] => false
 | c :: t => letB c && t.all alnB
def nmB (s : ByteArray) : Bool := nmL s.data.toList
theorem nmL_cons (c : UInt8) (t : List UInt8) : nmL (c :: t) = (letB c && t.all alnB) := rfl
theorem nameLen_cons (c : UInt8) (t : List UInt8) : nameLen (c :: t) = if letB c then 1 + (t.takeWhile alnB).length else 0 := rfl
theorem nmL_take {l : List UInt8} (h : 0 < nameLen l) : nmL (l.take (nameLen l)) = true := by
 cases l with
 | nil => simp [nameLen] at h
 | cons c t =>
  rw [nameLen_cons] at h ⊢
  split at h
  ·rename_i hc
   rw [if_pos hc, show 1 + (t.takeWhile alnB).length = (t.takeWhile alnB).length + 1 by omega, List.take_succ_cons, nmL_cons]
   have hp := (List.prefix_iff_eq_take.1 (List.takeWhile_prefix alnB (l := t))).symm
   rw [hc, Bool.true_and, hp, List.all_takeWhile]
  ·omega
theorem nmB_congr {a b : ByteArray} (h : (a.toList == b.toList) = true) (ha : nmB a = true) : nmB b = true := by
 have h2 := eq_of_beq h
 rw [Lib.toList_data, Lib.toList_data] at h2
 unfold nmB at ha ⊢
 rwa [← h2]
theorem nmL_len {l : List UInt8} (h : nmL l = true) : nameLen l = l.length ∧ 0 < l.length := by
 cases l with
 | nil => simp [nmL] at h
 | cons c t =>
  rw [nmL_cons] at h
  obtain ⟨h1, h2⟩ := Bool.and_eq_true_iff.1 h
  rw [nameLen_cons, if_pos h1, List.length_cons]
  have : t.takeWhile alnB = t := by
   clear h h1
   induction t with
   | nil => rfl
   | cons d t ih =>
    rw [List.all_cons] at h2
    obtain ⟨h3, h4⟩ := Bool.and_eq_true_iff.1 h2
    rw [List.takeWhile_cons, if_pos h3, ih h4]
  rw [this]
  omega
theorem nmL_all {l : List UInt8} (h : nmL l = true) : ∀ x ∈ l, alnB x = true := by
 cases l with
 | nil => simp
 | cons c t =>
  rw [nmL_cons] at h
  obtain ⟨h1, h2⟩ := Bool.and_eq_true_iff.1 h
  intro x hx
  rcases List.mem_cons.1 hx with rfl | hx
  ·unfold alnB
   rw [h1]
   rfl
  ·exact List.all_eq_true.1 h2 x hx
theorem aln_lt {c : UInt8} (h : alnB c = true) : c.toNat < 128 ∧ c.toNat ≠ 45 ∧ c.toNat ≠ 32 ∧ 13 < c.toNat := by
 unfold alnB letB digB at h
 simp only [Bool.or_eq_true, Bool.and_eq_true, decide_eq_true_eq, beq_iff_eq] at h
 omega
theorem decodeW (t : ByteArray) (h : 0 < t.size) : 1 ≤ (Lib.decodeGo t).2 ∧ (Lib.decodeGo t).2 ≤ 4 := by
 unfold Lib.decodeGo
 rw [if_neg (by omega)]
 unfold Utf8.decode
 dsimp only
 repeat' split
 all_goals simp
theorem decodeA (t : ByteArray) (c : UInt8) (r : List UInt8) (h : t.data.toList = c :: r) (hc : c.toNat < 128) : Lib.decodeGo t = (c.toNat, 1) := by
 have hs : t.size = r.length + 1 := by rw [Lib.size_eq, h, List.length_cons]
 have hg : t.get! (0 + 0) = c := by
  obtain ⟨⟨l⟩⟩ := t
  subst h
  rfl
 unfold Lib.decodeGo
 rw [if_neg (by omega)]
 unfold Utf8.decode
 dsimp only
 exact (if_pos (by rw [hg]; exact hc)).trans (by rw [hg])
theorem signFrom_le (s : ByteArray) : ∀ (k j i : Nat), signFrom s k j = some i → (signV i).size ≤ s.size
 | 0, j, i, h => by simp [signFrom] at h
 | k + 1, j, i, h => by
  unfold signFrom at h
  split at h
  ·rename_i hp
   obtain rfl := Option.some.inj h
   apply Decidable.byContradiction
   intro hn
   rw [hpre_short _ _ hn] at hp
   cases hp
  ·exact signFrom_le s k (j + 1) i h
theorem one_le (s : ByteArray) : (oneT (nameLen s.data.toList) s).2.size ≤ s.size ∧ ((oneT (nameLen s.data.toList) s).1 = 1 → nmB (oneT (nameLen s.data.toList) s).2 = true) := by
 unfold oneT
 have hle := nameLen_le s.data.toList
 rw [← Lib.size_eq] at hle
 split
 ·rename_i h
  have hd : (s.extract 0 (nameLen s.data.toList)).data.toList = s.data.toList.take (nameLen s.data.toList) := by
   rw [Lib.extract_data, List.drop_zero, Nat.sub_zero]
  refine ⟨?_, fun _ => ?_⟩
  ·show (s.extract 0 (nameLen s.data.toList)).size ≤ _
   rw [Lib.size_eq, hd, List.length_take]
   omega
  ·show nmL (s.extract 0 (nameLen s.data.toList)).data.toList = true
   rw [hd]
   exact nmL_take h
 ·split
  ·rename_i j hj
   exact ⟨signFrom_le s 20 0 j hj, fun h => absurd (show (2 : Int) = 1 from h) (by decide)⟩
  ·exact ⟨Nat.zero_le _, fun h => absurd (show (0 : Int) = 1 from h) (by decide)⟩
def GoodA (l : List S110) : Prop := ∀ t ∈ l, t.f0 = 1 → nmB t.f1 = true
theorem lex_l1 (s : ByteArray) (hs : s.size ≤ 65536) : ∀ (n d i : Nat) (toks : List S110), d ≤ n → i + d = s.size → toks.length ≤ i → GoodA toks →
  ∃ r, Ev (fun k => le_Scan.l1 k s toks (i : Int)) r ∧ (r.2.2 = 0 → GoodA r.1) := by
 intro n
 induction n with
 | zero =>
  intro d i toks hd hi hl hg
  refine ⟨(toks ++ [(⟨0, (⟨#[]⟩ : ByteArray), (s.size : Int)⟩ : S110)], 0, 0), ?_, ?_⟩
  ·refine evU (fun k => by rw [le_Scan.l1]) ?_
   refine Ev.neg (by omega) (Ev.pos (by omega) (Ev.now _))
  ·intro _ t ht
   rcases List.mem_append.1 ht with h | h
   ·exact hg t h
   ·obtain rfl := List.mem_singleton.1 h
    exact fun h => absurd (show (0 : Int) = 1 from h) (by decide)
 | succ n ih =>
  intro d i toks hd hi hl hg
  by_cases h : i < s.size
  ·have hes : (s.extract i s.size).size = s.size - i := by rw [ByteArray.size_extract]; omega
   obtain ⟨ha, hk⟩ := one_le (s.extract i s.size)
   generalize hT : oneT (nameLen (s.extract i s.size).data.toList) (s.extract i s.size) = T at ha hk
   have hone : lex_one.f (s.extract i s.size) = some (T.1, T.2, 0) := by
    unfold lex_one.f
    rw [if_pos (by omega), hT]
   by_cases hb : T.2.toList = []
   ·refine ⟨([], (i : Int), 61), ?_, fun h => absurd (show (61 : Int) = 0 from h) (by decide)⟩
    refine evU (fun k => by rw [le_Scan.l1]) ?_
    refine Ev.pos (by omega) (Ev.pos (by omega) (Ev.pos (by omega) ?_))
    rw [Int.toNat_natCast, hone]
    exact Ev.bindc rfl (Ev.pos hb (Ev.now _))
   ·have hb0 : 0 < T.2.size := by
     rw [Lib.toList_data] at hb
     rw [Lib.size_eq]
     exact List.length_pos_iff.2 hb
    have hw : wrap64 ((i : Int) + (T.2.size : Int)) = ((i + T.2.size : Nat) : Int) := wadd _ _ (by omega)
    have hsk := skip_le false (s.data.toList.drop (i + T.2.size))
    rw [List.length_drop, ← Lib.size_eq] at hsk
    have hp : le_past.f s ((i + T.2.size : Nat) : Int) = some ((i + T.2.size + skip false (s.data.toList.drop (i + T.2.size)) : Nat) : Int) := by
     unfold le_past.f
     rw [if_pos (by omega), Int.toNat_natCast]
    obtain ⟨r, hr, hgr⟩ := ih (s.size - (i + T.2.size + skip false (s.data.toList.drop (i + T.2.size)))) (i + T.2.size + skip false (s.data.toList.drop (i + T.2.size))) (toks ++ [(⟨T.1, T.2, (i : Int)⟩ : S110)]) (by omega) (by omega) (by rw [List.length_append, List.length_singleton]; omega) (by
     intro t ht
     rcases List.mem_append.1 ht with h | h
     ·exact hg t h
     ·obtain rfl := List.mem_singleton.1 h
      exact hk)
    refine ⟨r, ?_, hgr⟩
    refine evU (fun k => by rw [le_Scan.l1]) ?_
    refine Ev.pos (by omega) (Ev.pos (by omega) (Ev.pos (by omega) ?_))
    rw [Int.toNat_natCast, hone]
    refine Ev.bindc rfl (Ev.neg hb (Ev.pos (by omega) ?_))
    dsimp only
    rw [hw, hp]
    exact Ev.bindc rfl hr
  ·exact ih 0 i toks (Nat.zero_le _) (by omega) hl hg
theorem lex_l0 (s : ByteArray) (hs : s.size ≤ 65536) : ∀ (n i : Nat), s.size ≤ i + n → i ≤ 70000 →
  ∃ r, Ev (fun k => le_Scan.l0 k s (i : Int)) r ∧ (r.2.2 = 0 → GoodA r.1) := by
 have hend : ∀ i : Nat, s.size ≤ i → ∃ r, Ev (fun k => le_Scan.l0 k s (i : Int)) r ∧ (r.2.2 = 0 → GoodA r.1) := by
  intro i hi
  have hsk := skip_le false (s.data.toList.drop 0)
  rw [List.length_drop, ← Lib.size_eq] at hsk
  have hp : le_past.f s 0 = some ((0 + skip false (s.data.toList.drop 0) : Nat) : Int) := by
   unfold le_past.f
   rw [if_pos (by omega)]
   rfl
  obtain ⟨r, hr, hg⟩ := lex_l1 s hs _ (s.size - (0 + skip false (s.data.toList.drop 0))) (0 + skip false (s.data.toList.drop 0)) [] (Nat.le_refl _) (by omega) (Nat.zero_le _) (fun t ht => by cases ht)
  refine ⟨r, ?_, hg⟩
  refine evU (fun k => by rw [le_Scan.l0]) ?_
  refine Ev.neg (by omega) ?_
  rw [hp]
  exact Ev.bindc rfl hr
 intro n
 induction n with
 | zero => exact fun i hi _ => hend i (by omega)
 | succ n ih =>
  intro i hi hi2
  by_cases h : i < s.size
  ·have hes : (s.extract i s.size).size = s.size - i := by rw [ByteArray.size_extract]; omega
   obtain ⟨w1, w4⟩ := decodeW (s.extract i s.size) (by omega)
   have hw : wrap64 ((i : Int) + ((Lib.decodeGo (s.extract i s.size)).2 : Int)) = ((i + (Lib.decodeGo (s.extract i s.size)).2 : Nat) : Int) := wadd _ _ (by omega)
   obtain ⟨r, hr, hg⟩ := ih (i + (Lib.decodeGo (s.extract i s.size)).2) (by omega) (by omega)
   by_cases h1 : ((Lib.decodeGo (s.extract i s.size)).1 : Int) = 65533 ∧ ((Lib.decodeGo (s.extract i s.size)).2 : Int) < 2
   ·refine ⟨([], (i : Int), 60), ?_, fun h => absurd (show (60 : Int) = 0 from h) (by decide)⟩
    refine evU (fun k => by rw [le_Scan.l0]) ?_
    refine Ev.pos (by omega) (Ev.pos (by omega) (Ev.pos (by omega) (Ev.bindc (a := (((Lib.decodeGo (s.extract i s.size)).1 : Int), ((Lib.decodeGo (s.extract i s.size)).2 : Int))) (by rw [Int.toNat_natCast]; rfl) ?_)))
    exact Ev.pos h1.1 (Ev.pos h1.2 (Ev.now _))
   ·refine ⟨r, ?_, hg⟩
    refine evU (fun k => by rw [le_Scan.l0]) ?_
    refine Ev.pos (by omega) (Ev.pos (by omega) (Ev.pos (by omega) (Ev.bindc (a := (((Lib.decodeGo (s.extract i s.size)).1 : Int), ((Lib.decodeGo (s.extract i s.size)).2 : Int))) (by rw [Int.toNat_natCast]; rfl) ?_)))
    dsimp only
    rw [hw]
    by_cases h2 : ((Lib.decodeGo (s.extract i s.size)).1 : Int) = 65533
    ·exact Ev.pos h2 (Ev.neg (fun h3 => h1 ⟨h2, h3⟩) hr)
    ·exact Ev.neg h2 hr
  ·exact hend i (by omega)
theorem named_ev (s : ByteArray) : ∃ b, Ev (fun k => pa_named.f k s) b ∧ (b = true → s.size ≤ 65536 ∧ nmB s = true) := by
 obtain ⟨r, hr, hg⟩ : ∃ r, Ev (fun k => le_Scan.f k s) r ∧ (r.2.2 = 0 → s.size ≤ 65536 ∧ GoodA r.1) := by
  by_cases h : s.size ≤ 65536
  ·obtain ⟨r, hr, hg⟩ := lex_l0 s h s.size 0 (by omega) (by omega)
   refine ⟨r, ?_, fun h2 => ⟨h, hg h2⟩⟩
   refine evS (fun k => by rw [le_Scan.f]) ?_
   exact Ev.neg (by omega) hr
  ·refine ⟨([], 0, 3), ?_, fun h => absurd h (by decide)⟩
   refine evS (fun k => by rw [le_Scan.f]) ?_
   exact Ev.pos (by omega) (Ev.now _)
 by_cases h0 : r.2.2 = 0
 ·by_cases h1 : (r.1.length : Int) = 2
  ·by_cases h2 : (rd_T110 r.1 0).f0 = 1
   ·refine ⟨(rd_T110 r.1 0).f1.toList == s.toList, ?_, fun hb => ?_⟩
    ·refine evS (fun k => by rw [pa_named.f]) ?_
     exact Ev.bind hr (Ev.pos h0 (Ev.pos h1 (Ev.pos (by omega) (Ev.pos h2 (Ev.now _)))))
    ·obtain ⟨h3, h4⟩ := hg h0
     refine ⟨h3, nmB_congr hb (h4 _ ?_ h2)⟩
     unfold rd_T110
     rw [List.getD_eq_getElem?_getD, List.getElem?_eq_getElem (by omega)]
     exact List.getElem_mem _
   ·refine ⟨false, ?_, fun h => by cases h⟩
    refine evS (fun k => by rw [pa_named.f]) ?_
    exact Ev.bind hr (Ev.pos h0 (Ev.pos h1 (Ev.pos (by omega) (Ev.neg h2 (Ev.now _)))))
  ·refine ⟨false, ?_, fun h => by cases h⟩
   refine evS (fun k => by rw [pa_named.f]) ?_
   exact Ev.bind hr (Ev.pos h0 (Ev.neg h1 (Ev.now _)))
 ·refine ⟨false, ?_, fun h => by cases h⟩
  refine evS (fun k => by rw [pa_named.f]) ?_
  exact Ev.bind hr (Ev.neg h0 (Ev.now _))
theorem le_ascii (s : ByteArray) (hs : s.size ≤ 65536) (hn : nmB s = true) : ∀ (n i : Nat), i + n = s.size →
  Ev (fun k => le_Scan.l0 k s (i : Int)) ([(⟨1, s.extract 0 s.size, 0⟩ : S110), (⟨0, ⟨#[]⟩, (s.size : Int)⟩ : S110)], 0, 0) := by
 obtain ⟨hl1, hl2⟩ := nmL_len hn
 have hall := nmL_all hn
 rw [← Lib.size_eq] at hl1 hl2
 intro n
 induction n with
 | zero =>
  intro i hi
  have hsk0 : skip false (s.data.toList.drop 0) = 0 := by
   obtain ⟨c, t, hct⟩ : ∃ c t, s.data.toList = c :: t := List.exists_cons_of_ne_nil (by intro h; rw [Lib.size_eq, h] at hl2; exact absurd hl2 (by decide))
   have hc := aln_lt (hall c (by rw [hct]; exact List.mem_cons_self))
   rw [List.drop_zero, hct]
   unfold skip
   have hne : ∀ m : Nat, m ≤ 13 ∨ m = 32 ∨ m = 45 → ¬ c = UInt8.ofNat m := by
    intro m hm h
    subst h
    rw [UInt8.toNat_ofNat'] at hc
    omega
   rw [if_neg (by rintro (h | h | h | h); exact hne 32 (by omega) h; exact hne 9 (by omega) h; exact hne 10 (by omega) h; exact hne 13 (by omega) h), if_neg (fun h => hne 45 (by omega) h.1)]
  have hp : le_past.f s 0 = some 0 := by
   unfold le_past.f
   rw [if_pos (by omega)]
   show some ((0 + skip false (s.data.toList.drop 0) : Nat) : Int) = _
   rw [hsk0]
   rfl
  have hex : s.extract 0 s.size = s := by
   apply ByteArray.ext
   apply Array.toList_inj.1
   rw [Lib.extract_data, List.drop_zero, Nat.sub_zero, Lib.size_eq, List.take_length]
  have hone : lex_one.f (s.extract (0 : Int).toNat s.size) = some (1, s.extract 0 s.size, 0) := by
   unfold lex_one.f
   rw [show s.extract (0 : Int).toNat s.size = s from hex, if_pos (by omega), hl1]
   unfold oneT
   rw [if_pos (by omega)]
  have hpe : le_past.f s (s.size : Int) = some (s.size : Int) := by
   unfold le_past.f
   rw [if_pos (by omega), Int.toNat_natCast, drop_end s _ (Nat.le_refl _)]
   rfl
  refine evU (fun k => by rw [le_Scan.l0]) ?_
  refine Ev.neg (by omega) ?_
  rw [hp]
  refine Ev.bindc rfl ?_
  refine evU (fun k => by rw [le_Scan.l1]) ?_
  refine Ev.pos (by omega) (Ev.pos (by omega) (Ev.pos (by omega) (Ev.bindc hone (Ev.neg ?_ (Ev.pos (by decide) ?_)))))
  ·show ¬ (s.extract 0 s.size).toList = []
   rw [hex, Lib.toList_data]
   intro h
   rw [Lib.size_eq, h] at hl2
   exact absurd hl2 (by decide)
  ·dsimp only
   rw [hex, show wrap64 (0 + (s.size : Int)) = (s.size : Int) by rw [Int.zero_add]; exact w64 (by omega) (by omega), hpe]
   refine Ev.bindc rfl ?_
   refine evU (fun k => by rw [le_Scan.l1]) ?_
   exact Ev.neg (by omega) (Ev.pos (by show 1 < 4398046511104; decide) (Ev.now _))
 | succ n ih =>
  intro i hi
  have hlt : i < s.size := by omega
  have hd := drop_bt s i hlt
  have hal := hall s[i] (List.mem_of_mem_drop (i := i) (by rw [hd]; exact List.mem_cons_self))
  have hdec := decodeA (s.extract i s.size) s[i] (s.data.toList.drop (i + 1)) (by rw [Lib.extract_data, ← hd, List.take_of_length_le (by rw [List.length_drop, ← Lib.size_eq]; omega)]) (aln_lt hal).1
  refine evU (fun k => by rw [le_Scan.l0]) ?_
  refine Ev.pos (by omega) (Ev.pos (by omega) (Ev.pos (by omega) (Ev.bindc (a := ((s[i].toNat : Int), 1)) (by rw [Int.toNat_natCast]; unfold ut_Decode1.f; rw [hdec]; rfl) ?_)))
  have := (aln_lt hal).1
  refine Ev.neg (by show ¬ (s[i].toNat : Int) = 65533; omega) ?_
  dsimp only
  rw [wsucc i (by omega)]
  exact ih (i + 1) (by omega)
theorem named_true (s : ByteArray) (hs : s.size ≤ 65536) (hn : nmB s = true) : Ev (fun k => pa_named.f k s) true := by
 have hex : s.extract 0 s.size = s := by
  apply ByteArray.ext
  apply Array.toList_inj.1
  rw [Lib.extract_data, List.drop_zero, Nat.sub_zero, Lib.size_eq, List.take_length]
 have h := le_ascii s hs hn s.size 0 (by omega)
 have h2 : Ev (fun k => le_Scan.f k s) ([(⟨1, s.extract 0 s.size, 0⟩ : S110), (⟨0, ⟨#[]⟩, (s.size : Int)⟩ : S110)], 0, 0) := by
  refine evS (fun k => by rw [le_Scan.f]) ?_
  exact Ev.neg (by omega) h
 refine evS (fun k => by rw [pa_named.f]) ?_
 refine Ev.bind h2 (Ev.pos rfl (Ev.pos rfl (Ev.pos (by show (0 : Int) < 2; decide) (Ev.pos rfl (Ev.const ?_)))))
 show some ((s.extract 0 s.size).toList == s.toList) = some true
 rw [hex, beq_self_eq_true]
theorem namedA (s : ByteArray) : Ev (fun k => pa_named.f k s) (decide (s.size ≤ 65536) && nmB s) := by
 obtain ⟨b, hb, ht⟩ := named_ev s
 by_cases h : s.size ≤ 65536 ∧ nmB s = true
 ·rw [decide_eq_true h.1, h.2]
  exact named_true s h.1 h.2
 ·have hbf : b = false := by
   cases b with
   | false => rfl
   | true => exact absurd (ht rfl) h
  subst hbf
  have : (decide (s.size ≤ 65536) && nmB s) = false := by
   rw [Bool.eq_false_iff]
   intro h2
   obtain ⟨h3, h4⟩ := Bool.and_eq_true_iff.1 h2
   exact h ⟨of_decide_eq_true h3, h4⟩
  rw [this]
  exact hb
end Go.Proofs.YtahdjajdaggmjaaGreatDoor.XPa
end
