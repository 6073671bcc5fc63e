-- PRINTED BY print.sh 35421559b90ae4d0a3588c463048766b98c2df88dd9212a6774a882060cdf62d: not written by this session
import Derived.Test.YtahdjajdaggmjaaGreatDoorWWords
import Derived.Test.YtahdjajdaggmjaaGreatDoorUtab
import Derived.Test.YtahdjajdaggmjaaGreatDoorWEqStruct
import Derived.Test.YtahdjajdaggmjaaGreatDoorProg
import Derived.Below
import Derived.Deep.Draws
import Derived.Deep.AppendLies
import Derived.Maps.AppendAt
import Derived.OwnWalk
import Derived.Laws.BytesArg
import Derived.Laws.MakeOwn
import Derived.Laws.OwnMore
import Derived.Deep.OwnRows
import Derived.Tactics
import Derived.Lib.ConvBytes
import Derived.Laws.Slices
import Derived.WalkKit
import Derived.KernelRfl
import Derived.RowKit3
import Derived.Deep.LoopGhost
import Derived.Deep.QuietTactic
import Derived.BigQuiet
import Derived.WideLaws
import Derived.Deep.DeepCutAuto
import Derived.Deep.CutBlock
import Derived.Deep.RegionHeld3
import Derived.Laws.Rows
import Derived.Lib.AppendStr
import Derived.ArgAppend
import Derived.Laws.IdiomCopy
import Derived.OrdersHeld
import Derived.Laws.BitsLemmas
import Derived.RowKit
import Derived.Test.YtahdjajdaggmjaaGreatDoorSortLay
import Derived.Test.YtahdjajdaggmjaaGreatDoorFc
import Derived.Test.YtahdjajdaggmjaaGreatDoorWLast
import Derived.OneCell
import Derived.Outline
import Derived.Lib.Hide
section
namespace Go.Proofs.YtahdjajdaggmjaaGreatDoorW.PrintWords
theorem Reps.one {α : Type} {R : α → List Value → Prop} {ps : List α} {cs : List Value} {p : α} {v : Value} (hp : R p [v]) (h : Reps R 1 ps cs) : Reps R 1 (p :: ps) (v :: cs) := by
 refine ⟨by simp [h.1], fun j q hq => ?_⟩
 cases j with
 | zero =>
  simp only [List.getElem?_cons_zero, Option.some.injEq] at hq
  subst hq
  simpa using hp
 | succ j =>
  simp only [List.getElem?_cons_succ] at hq
  have h1 := h.2 j q hq
  simpa [Nat.mul_one] using h1
theorem Reps.front {α : Type} {R : α → List Value → Prop} {size : Nat} {ps : List α} {cs c all : List Value} {p : α} (hp : R p c) (hc : c.length = size) (h : Reps R size ps cs) (ha : c ++ cs = all) : Reps R size (p :: ps) all := by
 subst ha
 refine ⟨by rw [List.length_append, hc, h.1, List.length_cons, Nat.succ_mul, Nat.add_comm], fun j q hq => ?_⟩
 cases j with
 | zero =>
  simp only [List.getElem?_cons_zero, Option.some.injEq] at hq
  subst hq
  rw [Nat.zero_mul, List.drop_zero, List.take_append_of_le_length (by omega), List.take_of_length_le (by omega)]
  exact hp
 | succ j =>
  simp only [List.getElem?_cons_succ] at hq
  have h1 := h.2 j q hq
  rw [Nat.succ_mul, List.drop_append, List.drop_of_length_le (by rw [hc]; exact Nat.le_add_left _ _), List.nil_append, hc, Nat.add_sub_cancel]
  exact h1
theorem Reps.c5 {α : Type} {R : α → List Value → Prop} {ps : List α} {cs : List Value} {p : α} {va vb vc vd ve : Value} (hp : R p [va, vb, vc, vd, ve]) (h : Reps R 5 ps cs) : Reps R 5 (p :: ps) (va :: vb :: vc :: vd :: ve :: cs) := Reps.front hp rfl h rfl
theorem Reps.c6 {α : Type} {R : α → List Value → Prop} {ps : List α} {cs : List Value} {p : α} {va vb vc vd ve vf : Value} (hp : R p [va, vb, vc, vd, ve, vf]) (h : Reps R 6 ps cs) : Reps R 6 (p :: ps) (va :: vb :: vc :: vd :: ve :: vf :: cs) := Reps.front hp rfl h rfl
theorem Reps.c7 {α : Type} {R : α → List Value → Prop} {ps : List α} {cs : List Value} {p : α} {va vb vc vd ve vf vg : Value} (hp : R p [va, vb, vc, vd, ve, vf, vg]) (h : Reps R 7 ps cs) : Reps R 7 (p :: ps) (va :: vb :: vc :: vd :: ve :: vf :: vg :: cs) := Reps.front hp rfl h rfl
theorem Reps.c9 {α : Type} {R : α → List Value → Prop} {ps : List α} {cs : List Value} {p : α} {va vb vc vd ve vf vg vh vi : Value} (hp : R p [va, vb, vc, vd, ve, vf, vg, vh, vi]) (h : Reps R 9 ps cs) : Reps R 9 (p :: ps) (va :: vb :: vc :: vd :: ve :: vf :: vg :: vh :: vi :: cs) := Reps.front hp rfl h rfl
end Go.Proofs.YtahdjajdaggmjaaGreatDoorW.PrintWords
end
section
namespace Go.Proofs.YtahdjajdaggmjaaGreatDoorW.PrintLast
section
variable {P : Program} {ops : Array Oper} {Q : Exit → Act → World → Prop} {md : Region.Mode} {T : Bool × List (List Nat × List Nat)} {B : List Nat} {O : List Nat} {b : Nat → Bool} {i j n : Nat}
end
end Go.Proofs.YtahdjajdaggmjaaGreatDoorW.PrintLast
end
section
namespace Go.Proofs.YtahdjajdaggmjaaGreatDoorW.PrintWords
open Go.RowKit
end Go.Proofs.YtahdjajdaggmjaaGreatDoorW.PrintWords
namespace Go.Proofs.YtahdjajdaggmjaaGreatDoorW.PrintLast
section
variable {ops : Array Oper} {a : Act} {o og : Oper} {g : Nat} {t : Tmp} {u : Bool}
end
end Go.Proofs.YtahdjajdaggmjaaGreatDoorW.PrintLast
end
section
namespace Go.Proofs.YtahdjajdaggmjaaGreatDoorW.PrintWords
open Go.RowKit
section
variable {P : Program} {ops : Array Oper} {rest : List Oper} {o : Oper} {a : Act} {Q : Exit → Act → World → Prop} {W : World}
theorem gate_guard (hw : Region.wanted o (yielded ops a.tmps) = true) (h : wpList P ops Q ({ o with guard := none } :: rest) a W) : wpList P ops Q (o :: rest) a W := by
 have h1 : Region.wanted { o with guard := none } (yielded ops a.tmps) = true := rfl
 unfold wpList at h ⊢
 rw [if_pos h1] at h
 rw [if_pos hw]
 exact h
end
end Go.Proofs.YtahdjajdaggmjaaGreatDoorW.PrintWords
end
section
namespace Go.Proofs.YtahdjajdaggmjaaGreatDoor.XPa
open Go.RowKit Go.Proofs.YtahdjajdaggmjaaGreatDoorW.PrintWords Go.Proofs.YtahdjajdaggmjaaGreatDoorW.PrintLast Go.Proofs.YtahdjajdaggmjaaGreatDoorW.PrintMore
attribute [local go_sem] max2_int min2_int max_two min_two max_three min_three max_four min_four
set_option linter.unusedVariables false
set_option linter.unusedSimpArgs false
def errW : Option Int → Value
 | none => .nilIface
 | some c => .iface 0 (.int .i64 c)
theorem errW_none : errW none = .nilIface := rfl
theorem errW_some (c : Int) : errW (some c) = .iface 0 (.int .i64 c) := rfl
theorem info3 : (Tryz.prog.info? 3).map (fun i => (i.zero, i.size, i.bytes)) = some (some (.int .i64 0), 1, 8) := by kernel_rfl
theorem info5 : (Tryz.prog.info? 5).map (fun i => (i.zero, i.size, i.bytes)) = some (some (.int .u8 0), 1, 1) := by kernel_rfl
theorem info59 : (Tryz.prog.info? 59).map (fun i => (i.zero, i.size, i.bytes)) = some (some (.agg #[(.string ⟨#[]⟩), (.int .i64 0), (.int .i64 0), (.string ⟨#[]⟩), (.slice none 0 0), (.slice none 0 0), (.slice none 0 0), (.int .i64 0), (.int .i64 0), (.string ⟨#[]⟩), (.slice none 0 0), (.slice none 0 0), (.slice none 0 0)]), 13, 224) := by kernel_rfl
theorem info98 : (Tryz.prog.info? 98).map (fun i => (i.zero, i.size, i.bytes)) = some (some (.agg #[(.int .i64 0), (.string ⟨#[]⟩), (.int .i64 0)]), 3, 32) := by kernel_rfl
theorem info110 : (Tryz.prog.info? 110).map (fun i => (i.zero, i.size, i.bytes)) = some (some (.agg #[(.int .i64 0), (.string ⟨#[]⟩), (.int .i64 0)]), 3, 32) := by kernel_rfl
structure S113 where
 f0 : Int
 f1 : Int
def z113 : S113 := ⟨(0 : Int), (0 : Int)⟩
def k113 : Kd S113 := Kd.iso (Kd.pair (Kd.int .u32) (Kd.int .u32)) (fun x : S113 => (x.f0, x.f1))
theorem k113_heap : Kd.Heap k113 := Kd.heap_iso _ (Kd.heap_pair (Kd.heap_int .u32) (Kd.heap_int .u32))
theorem k113_open {w : World} {x : S113} {cs : List Value} (h : k113.K w x cs) : cs = [.int .u32 x.f0, .int .u32 x.f1] := by
 obtain ⟨_, _, rfl, rfl, rfl⟩ := h
 exact rfl
theorem k113_mk (w : World) (x : S113)  : k113.K w x [.int .u32 x.f0, .int .u32 x.f1] := ⟨[.int .u32 x.f0], [.int .u32 x.f1], rfl, rfl, rfl⟩
theorem k113_mkM (w : World) (base : Nat) (ok : Nat → Prop) (x : S113)  : k113.M w base ok x [.int .u32 x.f0, .int .u32 x.f1] := ⟨[.int .u32 x.f0], [.int .u32 x.f1], rfl, rfl, rfl⟩
def rd_T113 (xs : List S113) (i : Int) : S113 := xs.getD i.toNat z113
theorem at_T113 {w : World} {A : Option Addr} {n : Nat} {xs : List S113} (h : Kd.C k113 w A n xs) (i : Int) (h0 : 0 ≤ i) (h1 : i < n) : ∃ ad , A = some ad ∧ w.cell? (ad.add (i.toNat * 2)) = some (.int .u32 (rd_T113 xs i).f0) ∧ w.cell? ⟨(ad.add (i.toNat * 2)).block, (ad.add (i.toNat * 2)).off + 1, none⟩ = some (.int .u32 (rd_T113 xs i).f1) := by
 obtain ⟨ad, c, e, _, hK, hc0⟩ := Kd.C_get h z113 i h0 h1
 have hc : ∀ j u, c[j]? = some u → w.cell? (ad.add (i.toNat * 2 + j)) = some u := hc0
 obtain rfl := k113_open hK
 exact ⟨ad, e, hc 0 _ rfl, by rw [← add_field _ _ 1 (by omega)]; exact hc 1 _ rfl⟩
structure B90 (α : Type) where
 f0 : (List S113)
 f1 : List α
def G90 {α : Type} (d : Kd α) : Kd (B90 α) := Kd.iso (Kd.pair (Kd.slice 113 k113) (Kd.slice 49 d)) (fun x : B90 α => (x.f0, x.f1))
theorem monoG90 {α : Type} : Kd.Mono (fun d : Kd α => G90 d) := Kd.mono_iso _ (Kd.mono_pair (Kd.mono_const _) (Kd.mono_slice 49 Kd.mono_id))
theorem subG90 {α : Type} : Kd.Sub (fun d : Kd α => G90 d) [49, 90, 113] := Kd.sub_iso _ (Kd.sub_pair (Kd.sub_const _ (by decide)) (Kd.sub_slice 49 (by decide) Kd.sub_id))
theorem heapG90 {α : Type} {d : Kd α} (h_ : Kd.Heap d) : Kd.Heap (G90 d) := Kd.heap_iso _ (Kd.heap_pair (Kd.heap_slice 113 k113_heap) (Kd.heap_slice 49 h_))
structure S49 where
 f0 : Int
 f1 : Int
 f2 : ByteArray
 f3 : (List S113)
 f4 : (List S49)
 f5 : (List (B90 S49))
def z49 : S49 := ⟨(0 : Int), (0 : Int), (⟨#[]⟩ : ByteArray), ([] : List S113), ([] : List S49), ([] : List (B90 S49))⟩
def F49 (d : Kd S49) : Kd S49 := Kd.iso (Kd.pair (Kd.int .i64) (Kd.pair (Kd.int .i64) (Kd.pair Kd.string (Kd.pair (Kd.slice 113 k113) (Kd.pair (Kd.slice 49 d) (Kd.slice 90 (G90 d))))))) (fun x : S49 => (x.f0, x.f1, x.f2, x.f3, x.f4, x.f5))
theorem mono49 : Kd.Mono F49 := Kd.mono_iso _ (Kd.mono_pair (Kd.mono_const _) (Kd.mono_pair (Kd.mono_const _) (Kd.mono_pair (Kd.mono_const _) (Kd.mono_pair (Kd.mono_const _) (Kd.mono_pair (Kd.mono_slice 49 Kd.mono_id) (Kd.mono_slice 90 monoG90))))))
theorem sub49 : Kd.Sub F49 [49, 90, 113] := Kd.sub_iso _ (Kd.sub_pair (Kd.sub_const _ (by decide)) (Kd.sub_pair (Kd.sub_const _ (by decide)) (Kd.sub_pair (Kd.sub_const _ (by decide)) (Kd.sub_pair (Kd.sub_const _ (by decide)) (Kd.sub_pair (Kd.sub_slice 49 (by decide) Kd.sub_id) (Kd.sub_slice 90 (by decide) subG90))))))
theorem sz49 : ∀ n, (Kd.upto F49 6 [49, 90, 113] n).sz = 6 := Kd.upto_sz (fun _ => rfl)
def k49 : Kd S49 := Kd.fix F49 6 [49, 90, 113] sz49 (Kd.upto_E sub49)
theorem k49_heap : Kd.Heap k49 := Kd.heap_fix (fun _ h_ => Kd.heap_iso _ (Kd.heap_pair (Kd.heap_int .i64) (Kd.heap_pair (Kd.heap_int .i64) (Kd.heap_pair Kd.heap_string (Kd.heap_pair (Kd.heap_slice 113 k113_heap) (Kd.heap_pair (Kd.heap_slice 49 h_) (Kd.heap_slice 90 (heapG90 h_))))))))
def k90 : Kd (B90 S49) := G90 k49
theorem via90_C {n : Nat} {w : World} {A : Option Addr} {m : Nat} {xs : List (B90 S49)} (h : (G90 (Kd.upto F49 6 [49, 90, 113] n)).C w A m xs) : k90.C w A m xs := Kd.C_imp (d' := k90) (monoG90.sz _ _ (sz49 n)) (fun w x cs hp => monoG90.K _ k49 (sz49 n) (fun _ _ _ hk => ⟨n, hk⟩) w x cs hp) h
theorem via90_K_le {n m : Nat} (hnm : n ≤ m) {w : World} {x : B90 S49} {cs : List Value} (h : (G90 (Kd.upto F49 6 [49, 90, 113] n)).K w x cs) : (G90 (Kd.upto F49 6 [49, 90, 113] m)).K w x cs := monoG90.K _ _ (by rw [sz49 n, sz49 m]) (fun _ _ _ hk => Kd.upto_K_le mono49 sz49 hnm hk) w x cs h
theorem via90_C_le {n m : Nat} (hnm : n ≤ m) {w : World} {A : Option Addr} {l : Nat} {xs : List (B90 S49)} (h : (G90 (Kd.upto F49 6 [49, 90, 113] n)).C w A l xs) : (G90 (Kd.upto F49 6 [49, 90, 113] m)).C w A l xs := Kd.C_imp (monoG90.sz _ _ (by rw [sz49 n, sz49 m])) (fun _ _ _ hp => via90_K_le hnm hp) h
theorem via90_K_back {w : World} {x : B90 S49} {cs : List Value} (h : k90.K w x cs) : ∃ n, (G90 (Kd.upto F49 6 [49, 90, 113] n)).K w x cs := by
 obtain ⟨_, _, rfl, ⟨A0, c0, rfl, l0, g0⟩, ⟨A1, c1, rfl, l1, g1⟩⟩ := h
 obtain ⟨n1, q1⟩ := Kd.fix_C_back mono49 g1
 have r1 := Kd.upto_C_le mono49 sz49 (show n1 ≤ n1 by omega) q1
 exact ⟨n1, ⟨_, _, rfl, ⟨A0, c0, rfl, l0, g0⟩, ⟨A1, c1, rfl, l1, r1⟩⟩⟩
theorem via90_C_back {w : World} {A : Option Addr} {m : Nat} {xs : List (B90 S49)} (h : k90.C w A m xs) : ∃ n, (G90 (Kd.upto F49 6 [49, 90, 113] n)).C w A m xs := by
 rcases Nat.eq_zero_or_pos m with hz | hpos
 ·subst hz
  exact ⟨0, h.1, h.2.1, fun hp => absurd hp (Nat.lt_irrefl 0)⟩
 ·obtain ⟨ad, e, hc⟩ := h.2.2 hpos
  obtain ⟨N, hN⟩ := Kd.bounded (P := fun n j => ∀ p, xs[j]? = some p → ∃ c, c.length = 2 ∧ (G90 (Kd.upto F49 6 [49, 90, 113] n)).K w p c ∧ ∀ i u, c[i]? = some u → w.cell? (ad.add (j * 2 + i)) = some u)
   (fun n n' j hnm hp p hj => by
    obtain ⟨c, h1, h2, h3⟩ := hp p hj
    exact ⟨c, h1, via90_K_le hnm h2, h3⟩) xs.length
   (fun j hj => by
    obtain ⟨c, h1, h2, h3⟩ := hc j _ (List.getElem?_eq_getElem hj)
    obtain ⟨n, h2⟩ := via90_K_back h2
    refine ⟨n, fun p hp => ?_⟩
    rw [List.getElem?_eq_getElem hj] at hp
    injection hp with hp
    rw [← hp]
    exact ⟨c, h1, h2, h3⟩)
  refine ⟨N, h.1, h.2.1, fun _ => ⟨ad, e, fun j p hj => ?_⟩⟩
  exact hN j (List.getElem?_eq_some_iff.1 hj).1 p hj
theorem k49_open {w : World} {x : S49} {cs : List Value} (h : k49.K w x cs) : ∃ A3 c3 A4 c4 A5 c5, cs = [.int .i64 x.f0, .int .i64 x.f1, .string x.f2, .slice A3 x.f3.length c3, .slice A4 x.f4.length c4, .slice A5 x.f5.length c5] ∧ x.f3.length ≤ c3 ∧ k113.C w A3 x.f3.length x.f3 ∧ x.f4.length ≤ c4 ∧ k49.C w A4 x.f4.length x.f4 ∧ x.f5.length ≤ c5 ∧ k90.C w A5 x.f5.length x.f5 := by
 obtain ⟨n, h⟩ := h
 cases n with
 | zero => exact h.elim
 | succ n =>
  obtain ⟨_, _, rfl, rfl, ⟨_, _, rfl, rfl, ⟨_, _, rfl, rfl, ⟨_, _, rfl, ⟨A3, c3, rfl, l3, g3⟩, ⟨_, _, rfl, ⟨A4, c4, rfl, l4, g4⟩, ⟨A5, c5, rfl, l5, g5⟩⟩⟩⟩⟩⟩ := h
  exact ⟨A3, c3, A4, c4, A5, c5, rfl, l3, g3, l4, Kd.fix_C g4, l5, via90_C g5⟩
theorem k49_mk (w : World) (x : S49) {A3 : Option Addr} {c3 : Nat} (l3 : x.f3.length ≤ c3) (g3 : k113.C w A3 x.f3.length x.f3) {A4 : Option Addr} {c4 : Nat} (l4 : x.f4.length ≤ c4) (g4 : k49.C w A4 x.f4.length x.f4) {A5 : Option Addr} {c5 : Nat} (l5 : x.f5.length ≤ c5) (g5 : k90.C w A5 x.f5.length x.f5) : k49.K w x [.int .i64 x.f0, .int .i64 x.f1, .string x.f2, .slice A3 x.f3.length c3, .slice A4 x.f4.length c4, .slice A5 x.f5.length c5] := by
 obtain ⟨n4, q4⟩ := Kd.fix_C_back mono49 g4
 obtain ⟨n5, q5⟩ := via90_C_back g5
 have r4 := Kd.upto_C_le mono49 sz49 (show n4 ≤ (max n4 n5) by omega) q4
 have r5 := via90_C_le (show n5 ≤ (max n4 n5) by omega) q5
 exact ⟨(max n4 n5) + 1, ⟨[.int .i64 x.f0], [.int .i64 x.f1, .string x.f2, .slice A3 x.f3.length c3, .slice A4 x.f4.length c4, .slice A5 x.f5.length c5], rfl, rfl, ⟨[.int .i64 x.f1], [.string x.f2, .slice A3 x.f3.length c3, .slice A4 x.f4.length c4, .slice A5 x.f5.length c5], rfl, rfl, ⟨[.string x.f2], [.slice A3 x.f3.length c3, .slice A4 x.f4.length c4, .slice A5 x.f5.length c5], rfl, rfl, ⟨[.slice A3 x.f3.length c3], [.slice A4 x.f4.length c4, .slice A5 x.f5.length c5], rfl, ⟨A3, c3, rfl, l3, g3⟩, ⟨[.slice A4 x.f4.length c4], [.slice A5 x.f5.length c5], rfl, ⟨A4, c4, rfl, l4, r4⟩, ⟨A5, c5, rfl, l5, r5⟩⟩⟩⟩⟩⟩⟩
def rd_T49 (xs : List S49) (i : Int) : S49 := xs.getD i.toNat z49
theorem at_T49 {w : World} {A : Option Addr} {n : Nat} {xs : List S49} (h : Kd.C k49 w A n xs) (i : Int) (h0 : 0 ≤ i) (h1 : i < n) : ∃ ad A3 c3 A4 c4 A5 c5, A = some ad ∧ w.cell? (ad.add (i.toNat * 6)) = some (.int .i64 (rd_T49 xs i).f0) ∧ w.cell? ⟨(ad.add (i.toNat * 6)).block, (ad.add (i.toNat * 6)).off + 1, none⟩ = some (.int .i64 (rd_T49 xs i).f1) ∧ w.cell? ⟨(ad.add (i.toNat * 6)).block, (ad.add (i.toNat * 6)).off + 2, none⟩ = some (.string (rd_T49 xs i).f2) ∧ w.cell? ⟨(ad.add (i.toNat * 6)).block, (ad.add (i.toNat * 6)).off + 3, none⟩ = some (.slice A3 (rd_T49 xs i).f3.length c3) ∧ w.cell? ⟨(ad.add (i.toNat * 6)).block, (ad.add (i.toNat * 6)).off + 4, none⟩ = some (.slice A4 (rd_T49 xs i).f4.length c4) ∧ w.cell? ⟨(ad.add (i.toNat * 6)).block, (ad.add (i.toNat * 6)).off + 5, none⟩ = some (.slice A5 (rd_T49 xs i).f5.length c5) ∧ (rd_T49 xs i).f3.length ≤ c3 ∧ k113.C w A3 (rd_T49 xs i).f3.length (rd_T49 xs i).f3 ∧ (rd_T49 xs i).f4.length ≤ c4 ∧ k49.C w A4 (rd_T49 xs i).f4.length (rd_T49 xs i).f4 ∧ (rd_T49 xs i).f5.length ≤ c5 ∧ k90.C w A5 (rd_T49 xs i).f5.length (rd_T49 xs i).f5 := by
 obtain ⟨ad, c, e, _, hK, hc0⟩ := Kd.C_get h z49 i h0 h1
 have hc : ∀ j u, c[j]? = some u → w.cell? (ad.add (i.toNat * 6 + j)) = some u := hc0
 obtain ⟨A3, c3, A4, c4, A5, c5, rfl, l3, g3, l4, g4, l5, g5⟩ := k49_open hK
 exact ⟨ad, A3, c3, A4, c4, A5, c5, e, hc 0 _ rfl, by rw [← add_field _ _ 1 (by omega)]; exact hc 1 _ rfl, by rw [← add_field _ _ 2 (by omega)]; exact hc 2 _ rfl, by rw [← add_field _ _ 3 (by omega)]; exact hc 3 _ rfl, by rw [← add_field _ _ 4 (by omega)]; exact hc 4 _ rfl, by rw [← add_field _ _ 5 (by omega)]; exact hc 5 _ rfl, l3, g3, l4, g4, l5, g5⟩
abbrev S90 := B90 S49
def z90 : S90 := ⟨([] : List S113), ([] : List S49)⟩
theorem k90_open {w : World} {x : S90} {cs : List Value} (h : k90.K w x cs) : ∃ A0 c0 A1 c1, cs = [.slice A0 x.f0.length c0, .slice A1 x.f1.length c1] ∧ x.f0.length ≤ c0 ∧ k113.C w A0 x.f0.length x.f0 ∧ x.f1.length ≤ c1 ∧ k49.C w A1 x.f1.length x.f1 := by
 obtain ⟨_, _, rfl, ⟨A0, c0, rfl, l0, g0⟩, ⟨A1, c1, rfl, l1, g1⟩⟩ := h
 exact ⟨A0, c0, A1, c1, rfl, l0, g0, l1, g1⟩
theorem k90_mk (w : World) (x : S90) {A0 : Option Addr} {c0 : Nat} (l0 : x.f0.length ≤ c0) (g0 : k113.C w A0 x.f0.length x.f0) {A1 : Option Addr} {c1 : Nat} (l1 : x.f1.length ≤ c1) (g1 : k49.C w A1 x.f1.length x.f1) : k90.K w x [.slice A0 x.f0.length c0, .slice A1 x.f1.length c1] := ⟨[.slice A0 x.f0.length c0], [.slice A1 x.f1.length c1], rfl, ⟨A0, c0, rfl, l0, g0⟩, ⟨A1, c1, rfl, l1, g1⟩⟩
def rd_T90 (xs : List S90) (i : Int) : S90 := xs.getD i.toNat z90
theorem at_T90 {w : World} {A : Option Addr} {n : Nat} {xs : List S90} (h : Kd.C k90 w A n xs) (i : Int) (h0 : 0 ≤ i) (h1 : i < n) : ∃ ad A0 c0 A1 c1, A = some ad ∧ w.cell? (ad.add (i.toNat * 2)) = some (.slice A0 (rd_T90 xs i).f0.length c0) ∧ w.cell? ⟨(ad.add (i.toNat * 2)).block, (ad.add (i.toNat * 2)).off + 1, none⟩ = some (.slice A1 (rd_T90 xs i).f1.length c1) ∧ (rd_T90 xs i).f0.length ≤ c0 ∧ k113.C w A0 (rd_T90 xs i).f0.length (rd_T90 xs i).f0 ∧ (rd_T90 xs i).f1.length ≤ c1 ∧ k49.C w A1 (rd_T90 xs i).f1.length (rd_T90 xs i).f1 := by
 obtain ⟨ad, c, e, _, hK, hc0⟩ := Kd.C_get h z90 i h0 h1
 have hc : ∀ j u, c[j]? = some u → w.cell? (ad.add (i.toNat * 2 + j)) = some u := hc0
 obtain ⟨A0, c0, A1, c1, rfl, l0, g0, l1, g1⟩ := k90_open hK
 exact ⟨ad, A0, c0, A1, c1, e, hc 0 _ rfl, by rw [← add_field _ _ 1 (by omega)]; exact hc 1 _ rfl, l0, g0, l1, g1⟩
structure S51 where
 f0 : ByteArray
 f1 : S49
 f2 : S49
def z51 : S51 := ⟨(⟨#[]⟩ : ByteArray), z49, z49⟩
def k51 : Kd S51 := Kd.iso (Kd.pair Kd.string (Kd.pair k49 k49)) (fun x : S51 => (x.f0, x.f1, x.f2))
theorem k51_heap : Kd.Heap k51 := Kd.heap_iso _ (Kd.heap_pair Kd.heap_string (Kd.heap_pair k49_heap k49_heap))
theorem k51_open {w : World} {x : S51} {cs : List Value} (h : k51.K w x cs) : ∃ A4 c4 A5 c5 A6 c6 A10 c10 A11 c11 A12 c12, cs = [.string x.f0, .int .i64 x.f1.f0, .int .i64 x.f1.f1, .string x.f1.f2, .slice A4 x.f1.f3.length c4, .slice A5 x.f1.f4.length c5, .slice A6 x.f1.f5.length c6, .int .i64 x.f2.f0, .int .i64 x.f2.f1, .string x.f2.f2, .slice A10 x.f2.f3.length c10, .slice A11 x.f2.f4.length c11, .slice A12 x.f2.f5.length c12] ∧ x.f1.f3.length ≤ c4 ∧ k113.C w A4 x.f1.f3.length x.f1.f3 ∧ x.f1.f4.length ≤ c5 ∧ k49.C w A5 x.f1.f4.length x.f1.f4 ∧ x.f1.f5.length ≤ c6 ∧ k90.C w A6 x.f1.f5.length x.f1.f5 ∧ x.f2.f3.length ≤ c10 ∧ k113.C w A10 x.f2.f3.length x.f2.f3 ∧ x.f2.f4.length ≤ c11 ∧ k49.C w A11 x.f2.f4.length x.f2.f4 ∧ x.f2.f5.length ≤ c12 ∧ k90.C w A12 x.f2.f5.length x.f2.f5 := by
 obtain ⟨_, _, rfl, rfl, ⟨_, _, rfl, s1, s7⟩⟩ := h
 obtain ⟨A4, c4, A5, c5, A6, c6, rfl, l4, g4, l5, g5, l6, g6⟩ := k49_open s1
 obtain ⟨A10, c10, A11, c11, A12, c12, rfl, l10, g10, l11, g11, l12, g12⟩ := k49_open s7
 exact ⟨A4, c4, A5, c5, A6, c6, A10, c10, A11, c11, A12, c12, rfl, l4, g4, l5, g5, l6, g6, l10, g10, l11, g11, l12, g12⟩
theorem k51_openF {W : World} {ok : Nat → Prop} {x : S51} {cs : List Value} (h : Kd.FK k51 W ok x cs) : ∃ A4 c4 A5 c5 A6 c6 A10 c10 A11 c11 A12 c12, cs = [.string x.f0, .int .i64 x.f1.f0, .int .i64 x.f1.f1, .string x.f1.f2, .slice A4 x.f1.f3.length c4, .slice A5 x.f1.f4.length c5, .slice A6 x.f1.f5.length c6, .int .i64 x.f2.f0, .int .i64 x.f2.f1, .string x.f2.f2, .slice A10 x.f2.f3.length c10, .slice A11 x.f2.f4.length c11, .slice A12 x.f2.f5.length c12] ∧ x.f1.f3.length ≤ c4 ∧ Kd.F k113 W ok A4 x.f1.f3.length x.f1.f3 ∧ x.f1.f4.length ≤ c5 ∧ Kd.F k49 W ok A5 x.f1.f4.length x.f1.f4 ∧ x.f1.f5.length ≤ c6 ∧ Kd.F k90 W ok A6 x.f1.f5.length x.f1.f5 ∧ x.f2.f3.length ≤ c10 ∧ Kd.F k113 W ok A10 x.f2.f3.length x.f2.f3 ∧ x.f2.f4.length ≤ c11 ∧ Kd.F k49 W ok A11 x.f2.f4.length x.f2.f4 ∧ x.f2.f5.length ≤ c12 ∧ Kd.F k90 W ok A12 x.f2.f5.length x.f2.f5 := by
 obtain ⟨A4, c4, A5, c5, A6, c6, A10, c10, A11, c11, A12, c12, rfl, l4, _, l5, _, l6, _, l10, _, l11, _, l12, _⟩ := k51_open (Kd.FK_now h)
 exact ⟨A4, c4, A5, c5, A6, c6, A10, c10, A11, c11, A12, c12, rfl, l4, (fun W' hW => by obtain ⟨A4_, c4_, A5_, c5_, A6_, c6_, A10_, c10_, A11_, c11_, A12_, c12_, he, l4_, g4_, l5_, g5_, l6_, g6_, l10_, g10_, l11_, g11_, l12_, g12_⟩ := k51_open (h W' hW); injection (Option.some.inj (show some (Value.slice A4 x.f1.f3.length c4) = some (Value.slice A4_ x.f1.f3.length c4_) from congrArg (fun l => l[4]?) he)) with ha_ _ _; rw [ha_]; exact g4_), l5, (fun W' hW => by obtain ⟨A4_, c4_, A5_, c5_, A6_, c6_, A10_, c10_, A11_, c11_, A12_, c12_, he, l4_, g4_, l5_, g5_, l6_, g6_, l10_, g10_, l11_, g11_, l12_, g12_⟩ := k51_open (h W' hW); injection (Option.some.inj (show some (Value.slice A5 x.f1.f4.length c5) = some (Value.slice A5_ x.f1.f4.length c5_) from congrArg (fun l => l[5]?) he)) with ha_ _ _; rw [ha_]; exact g5_), l6, (fun W' hW => by obtain ⟨A4_, c4_, A5_, c5_, A6_, c6_, A10_, c10_, A11_, c11_, A12_, c12_, he, l4_, g4_, l5_, g5_, l6_, g6_, l10_, g10_, l11_, g11_, l12_, g12_⟩ := k51_open (h W' hW); injection (Option.some.inj (show some (Value.slice A6 x.f1.f5.length c6) = some (Value.slice A6_ x.f1.f5.length c6_) from congrArg (fun l => l[6]?) he)) with ha_ _ _; rw [ha_]; exact g6_), l10, (fun W' hW => by obtain ⟨A4_, c4_, A5_, c5_, A6_, c6_, A10_, c10_, A11_, c11_, A12_, c12_, he, l4_, g4_, l5_, g5_, l6_, g6_, l10_, g10_, l11_, g11_, l12_, g12_⟩ := k51_open (h W' hW); injection (Option.some.inj (show some (Value.slice A10 x.f2.f3.length c10) = some (Value.slice A10_ x.f2.f3.length c10_) from congrArg (fun l => l[10]?) he)) with ha_ _ _; rw [ha_]; exact g10_), l11, (fun W' hW => by obtain ⟨A4_, c4_, A5_, c5_, A6_, c6_, A10_, c10_, A11_, c11_, A12_, c12_, he, l4_, g4_, l5_, g5_, l6_, g6_, l10_, g10_, l11_, g11_, l12_, g12_⟩ := k51_open (h W' hW); injection (Option.some.inj (show some (Value.slice A11 x.f2.f4.length c11) = some (Value.slice A11_ x.f2.f4.length c11_) from congrArg (fun l => l[11]?) he)) with ha_ _ _; rw [ha_]; exact g11_), l12, (fun W' hW => by obtain ⟨A4_, c4_, A5_, c5_, A6_, c6_, A10_, c10_, A11_, c11_, A12_, c12_, he, l4_, g4_, l5_, g5_, l6_, g6_, l10_, g10_, l11_, g11_, l12_, g12_⟩ := k51_open (h W' hW); injection (Option.some.inj (show some (Value.slice A12 x.f2.f5.length c12) = some (Value.slice A12_ x.f2.f5.length c12_) from congrArg (fun l => l[12]?) he)) with ha_ _ _; rw [ha_]; exact g12_)⟩
def rd_T51 (xs : List S51) (i : Int) : S51 := xs.getD i.toNat z51
theorem at_T51 {w : World} {A : Option Addr} {n : Nat} {xs : List S51} (h : Kd.C k51 w A n xs) (i : Int) (h0 : 0 ≤ i) (h1 : i < n) : ∃ ad A4 c4 A5 c5 A6 c6 A10 c10 A11 c11 A12 c12, A = some ad ∧ w.cell? (ad.add (i.toNat * 13)) = some (.string (rd_T51 xs i).f0) ∧ w.cell? ⟨(ad.add (i.toNat * 13)).block, (ad.add (i.toNat * 13)).off + 1, none⟩ = some (.int .i64 (rd_T51 xs i).f1.f0) ∧ w.cell? ⟨(ad.add (i.toNat * 13)).block, (ad.add (i.toNat * 13)).off + 2, none⟩ = some (.int .i64 (rd_T51 xs i).f1.f1) ∧ w.cell? ⟨(ad.add (i.toNat * 13)).block, (ad.add (i.toNat * 13)).off + 3, none⟩ = some (.string (rd_T51 xs i).f1.f2) ∧ w.cell? ⟨(ad.add (i.toNat * 13)).block, (ad.add (i.toNat * 13)).off + 4, none⟩ = some (.slice A4 (rd_T51 xs i).f1.f3.length c4) ∧ w.cell? ⟨(ad.add (i.toNat * 13)).block, (ad.add (i.toNat * 13)).off + 5, none⟩ = some (.slice A5 (rd_T51 xs i).f1.f4.length c5) ∧ w.cell? ⟨(ad.add (i.toNat * 13)).block, (ad.add (i.toNat * 13)).off + 6, none⟩ = some (.slice A6 (rd_T51 xs i).f1.f5.length c6) ∧ w.cell? ⟨(ad.add (i.toNat * 13)).block, (ad.add (i.toNat * 13)).off + 7, none⟩ = some (.int .i64 (rd_T51 xs i).f2.f0) ∧ w.cell? ⟨(ad.add (i.toNat * 13)).block, (ad.add (i.toNat * 13)).off + 8, none⟩ = some (.int .i64 (rd_T51 xs i).f2.f1) ∧ w.cell? ⟨(ad.add (i.toNat * 13)).block, (ad.add (i.toNat * 13)).off + 9, none⟩ = some (.string (rd_T51 xs i).f2.f2) ∧ w.cell? ⟨(ad.add (i.toNat * 13)).block, (ad.add (i.toNat * 13)).off + 10, none⟩ = some (.slice A10 (rd_T51 xs i).f2.f3.length c10) ∧ w.cell? ⟨(ad.add (i.toNat * 13)).block, (ad.add (i.toNat * 13)).off + 11, none⟩ = some (.slice A11 (rd_T51 xs i).f2.f4.length c11) ∧ w.cell? ⟨(ad.add (i.toNat * 13)).block, (ad.add (i.toNat * 13)).off + 12, none⟩ = some (.slice A12 (rd_T51 xs i).f2.f5.length c12) ∧ (rd_T51 xs i).f1.f3.length ≤ c4 ∧ k113.C w A4 (rd_T51 xs i).f1.f3.length (rd_T51 xs i).f1.f3 ∧ (rd_T51 xs i).f1.f4.length ≤ c5 ∧ k49.C w A5 (rd_T51 xs i).f1.f4.length (rd_T51 xs i).f1.f4 ∧ (rd_T51 xs i).f1.f5.length ≤ c6 ∧ k90.C w A6 (rd_T51 xs i).f1.f5.length (rd_T51 xs i).f1.f5 ∧ (rd_T51 xs i).f2.f3.length ≤ c10 ∧ k113.C w A10 (rd_T51 xs i).f2.f3.length (rd_T51 xs i).f2.f3 ∧ (rd_T51 xs i).f2.f4.length ≤ c11 ∧ k49.C w A11 (rd_T51 xs i).f2.f4.length (rd_T51 xs i).f2.f4 ∧ (rd_T51 xs i).f2.f5.length ≤ c12 ∧ k90.C w A12 (rd_T51 xs i).f2.f5.length (rd_T51 xs i).f2.f5 := by
 obtain ⟨ad, c, e, _, hK, hc0⟩ := Kd.C_get h z51 i h0 h1
 have hc : ∀ j u, c[j]? = some u → w.cell? (ad.add (i.toNat * 13 + j)) = some u := hc0
 obtain ⟨A4, c4, A5, c5, A6, c6, A10, c10, A11, c11, A12, c12, rfl, l4, g4, l5, g5, l6, g6, l10, g10, l11, g11, l12, g12⟩ := k51_open hK
 exact ⟨ad, A4, c4, A5, c5, A6, c6, A10, c10, A11, c11, A12, c12, e, hc 0 _ rfl, by rw [← add_field _ _ 1 (by omega)]; exact hc 1 _ rfl, by rw [← add_field _ _ 2 (by omega)]; exact hc 2 _ rfl, by rw [← add_field _ _ 3 (by omega)]; exact hc 3 _ rfl, by rw [← add_field _ _ 4 (by omega)]; exact hc 4 _ rfl, by rw [← add_field _ _ 5 (by omega)]; exact hc 5 _ rfl, by rw [← add_field _ _ 6 (by omega)]; exact hc 6 _ rfl, by rw [← add_field _ _ 7 (by omega)]; exact hc 7 _ rfl, by rw [← add_field _ _ 8 (by omega)]; exact hc 8 _ rfl, by rw [← add_field _ _ 9 (by omega)]; exact hc 9 _ rfl, by rw [← add_field _ _ 10 (by omega)]; exact hc 10 _ rfl, by rw [← add_field _ _ 11 (by omega)]; exact hc 11 _ rfl, by rw [← add_field _ _ 12 (by omega)]; exact hc 12 _ rfl, l4, g4, l5, g5, l6, g6, l10, g10, l11, g11, l12, g12⟩
structure S110 where
 f0 : Int
 f1 : ByteArray
 f2 : Int
def z110 : S110 := ⟨(0 : Int), (⟨#[]⟩ : ByteArray), (0 : Int)⟩
def k110 : Kd S110 := Kd.iso (Kd.pair (Kd.int .i64) (Kd.pair Kd.string (Kd.int .i64))) (fun x : S110 => (x.f0, x.f1, x.f2))
theorem k110_open {w : World} {x : S110} {cs : List Value} (h : k110.K w x cs) : cs = [.int .i64 x.f0, .string x.f1, .int .i64 x.f2] := by
 obtain ⟨_, _, rfl, rfl, ⟨_, _, rfl, rfl, rfl⟩⟩ := h
 exact rfl
theorem k110_mkM (w : World) (base : Nat) (ok : Nat → Prop) (x : S110)  : k110.M w base ok x [.int .i64 x.f0, .string x.f1, .int .i64 x.f2] := ⟨[.int .i64 x.f0], [.string x.f1, .int .i64 x.f2], rfl, rfl, ⟨[.string x.f1], [.int .i64 x.f2], rfl, rfl, rfl⟩⟩
def rd_T110 (xs : List S110) (i : Int) : S110 := xs.getD i.toNat z110
theorem at_T110 {w : World} {A : Option Addr} {n : Nat} {xs : List S110} (h : Kd.C k110 w A n xs) (i : Int) (h0 : 0 ≤ i) (h1 : i < n) : ∃ ad , A = some ad ∧ w.cell? (ad.add (i.toNat * 3)) = some (.int .i64 (rd_T110 xs i).f0) ∧ w.cell? ⟨(ad.add (i.toNat * 3)).block, (ad.add (i.toNat * 3)).off + 1, none⟩ = some (.string (rd_T110 xs i).f1) ∧ w.cell? ⟨(ad.add (i.toNat * 3)).block, (ad.add (i.toNat * 3)).off + 2, none⟩ = some (.int .i64 (rd_T110 xs i).f2) := by
 obtain ⟨ad, c, e, _, hK, hc0⟩ := Kd.C_get h z110 i h0 h1
 have hc : ∀ j u, c[j]? = some u → w.cell? (ad.add (i.toNat * 3 + j)) = some u := hc0
 obtain rfl := k110_open hK
 exact ⟨ad, e, hc 0 _ rfl, by rw [← add_field _ _ 1 (by omega)]; exact hc 1 _ rfl, by rw [← add_field _ _ 2 (by omega)]; exact hc 2 _ rfl⟩
structure S59 where
 f0 : ByteArray
 f1 : S49
 f2 : S49
def z59 : S59 := ⟨(⟨#[]⟩ : ByteArray), z49, z49⟩
def k59 : Kd S59 := Kd.iso (Kd.pair Kd.string (Kd.pair k49 k49)) (fun x : S59 => (x.f0, x.f1, x.f2))
theorem k59_open {w : World} {x : S59} {cs : List Value} (h : k59.K w x cs) : ∃ A4 c4 A5 c5 A6 c6 A10 c10 A11 c11 A12 c12, cs = [.string x.f0, .int .i64 x.f1.f0, .int .i64 x.f1.f1, .string x.f1.f2, .slice A4 x.f1.f3.length c4, .slice A5 x.f1.f4.length c5, .slice A6 x.f1.f5.length c6, .int .i64 x.f2.f0, .int .i64 x.f2.f1, .string x.f2.f2, .slice A10 x.f2.f3.length c10, .slice A11 x.f2.f4.length c11, .slice A12 x.f2.f5.length c12] ∧ x.f1.f3.length ≤ c4 ∧ k113.C w A4 x.f1.f3.length x.f1.f3 ∧ x.f1.f4.length ≤ c5 ∧ k49.C w A5 x.f1.f4.length x.f1.f4 ∧ x.f1.f5.length ≤ c6 ∧ k90.C w A6 x.f1.f5.length x.f1.f5 ∧ x.f2.f3.length ≤ c10 ∧ k113.C w A10 x.f2.f3.length x.f2.f3 ∧ x.f2.f4.length ≤ c11 ∧ k49.C w A11 x.f2.f4.length x.f2.f4 ∧ x.f2.f5.length ≤ c12 ∧ k90.C w A12 x.f2.f5.length x.f2.f5 := by
 obtain ⟨_, _, rfl, rfl, ⟨_, _, rfl, s1, s7⟩⟩ := h
 obtain ⟨A4, c4, A5, c5, A6, c6, rfl, l4, g4, l5, g5, l6, g6⟩ := k49_open s1
 obtain ⟨A10, c10, A11, c11, A12, c12, rfl, l10, g10, l11, g11, l12, g12⟩ := k49_open s7
 exact ⟨A4, c4, A5, c5, A6, c6, A10, c10, A11, c11, A12, c12, rfl, l4, g4, l5, g5, l6, g6, l10, g10, l11, g11, l12, g12⟩
theorem k59_mk (w : World) (x : S59) {A4 : Option Addr} {c4 : Nat} (l4 : x.f1.f3.length ≤ c4) (g4 : k113.C w A4 x.f1.f3.length x.f1.f3) {A5 : Option Addr} {c5 : Nat} (l5 : x.f1.f4.length ≤ c5) (g5 : k49.C w A5 x.f1.f4.length x.f1.f4) {A6 : Option Addr} {c6 : Nat} (l6 : x.f1.f5.length ≤ c6) (g6 : k90.C w A6 x.f1.f5.length x.f1.f5) {A10 : Option Addr} {c10 : Nat} (l10 : x.f2.f3.length ≤ c10) (g10 : k113.C w A10 x.f2.f3.length x.f2.f3) {A11 : Option Addr} {c11 : Nat} (l11 : x.f2.f4.length ≤ c11) (g11 : k49.C w A11 x.f2.f4.length x.f2.f4) {A12 : Option Addr} {c12 : Nat} (l12 : x.f2.f5.length ≤ c12) (g12 : k90.C w A12 x.f2.f5.length x.f2.f5) : k59.K w x [.string x.f0, .int .i64 x.f1.f0, .int .i64 x.f1.f1, .string x.f1.f2, .slice A4 x.f1.f3.length c4, .slice A5 x.f1.f4.length c5, .slice A6 x.f1.f5.length c6, .int .i64 x.f2.f0, .int .i64 x.f2.f1, .string x.f2.f2, .slice A10 x.f2.f3.length c10, .slice A11 x.f2.f4.length c11, .slice A12 x.f2.f5.length c12] := ⟨[.string x.f0], [.int .i64 x.f1.f0, .int .i64 x.f1.f1, .string x.f1.f2, .slice A4 x.f1.f3.length c4, .slice A5 x.f1.f4.length c5, .slice A6 x.f1.f5.length c6, .int .i64 x.f2.f0, .int .i64 x.f2.f1, .string x.f2.f2, .slice A10 x.f2.f3.length c10, .slice A11 x.f2.f4.length c11, .slice A12 x.f2.f5.length c12], rfl, rfl, ⟨[.int .i64 x.f1.f0, .int .i64 x.f1.f1, .string x.f1.f2, .slice A4 x.f1.f3.length c4, .slice A5 x.f1.f4.length c5, .slice A6 x.f1.f5.length c6], [.int .i64 x.f2.f0, .int .i64 x.f2.f1, .string x.f2.f2, .slice A10 x.f2.f3.length c10, .slice A11 x.f2.f4.length c11, .slice A12 x.f2.f5.length c12], rfl, (k49_mk w x.f1 l4 g4 l5 g5 l6 g6), (k49_mk w x.f2 l10 g10 l11 g11 l12 g12)⟩⟩
theorem k59_mkF (W : World) (ok : Nat → Prop) (x : S59) {A4 : Option Addr} {c4 : Nat} (l4 : x.f1.f3.length ≤ c4) (g4 : Kd.F k113 W ok A4 x.f1.f3.length x.f1.f3) {A5 : Option Addr} {c5 : Nat} (l5 : x.f1.f4.length ≤ c5) (g5 : Kd.F k49 W ok A5 x.f1.f4.length x.f1.f4) {A6 : Option Addr} {c6 : Nat} (l6 : x.f1.f5.length ≤ c6) (g6 : Kd.F k90 W ok A6 x.f1.f5.length x.f1.f5) {A10 : Option Addr} {c10 : Nat} (l10 : x.f2.f3.length ≤ c10) (g10 : Kd.F k113 W ok A10 x.f2.f3.length x.f2.f3) {A11 : Option Addr} {c11 : Nat} (l11 : x.f2.f4.length ≤ c11) (g11 : Kd.F k49 W ok A11 x.f2.f4.length x.f2.f4) {A12 : Option Addr} {c12 : Nat} (l12 : x.f2.f5.length ≤ c12) (g12 : Kd.F k90 W ok A12 x.f2.f5.length x.f2.f5) : Kd.FK k59 W ok x [.string x.f0, .int .i64 x.f1.f0, .int .i64 x.f1.f1, .string x.f1.f2, .slice A4 x.f1.f3.length c4, .slice A5 x.f1.f4.length c5, .slice A6 x.f1.f5.length c6, .int .i64 x.f2.f0, .int .i64 x.f2.f1, .string x.f2.f2, .slice A10 x.f2.f3.length c10, .slice A11 x.f2.f4.length c11, .slice A12 x.f2.f5.length c12] := fun W2 hW => k59_mk W2 x l4 (g4 W2 hW) l5 (g5 W2 hW) l6 (g6 W2 hW) l10 (g10 W2 hW) l11 (g11 W2 hW) l12 (g12 W2 hW)
def rd_T59 (xs : List S59) (i : Int) : S59 := xs.getD i.toNat z59
theorem at_T59 {w : World} {A : Option Addr} {n : Nat} {xs : List S59} (h : Kd.C k59 w A n xs) (i : Int) (h0 : 0 ≤ i) (h1 : i < n) : ∃ ad A4 c4 A5 c5 A6 c6 A10 c10 A11 c11 A12 c12, A = some ad ∧ w.cell? (ad.add (i.toNat * 13)) = some (.string (rd_T59 xs i).f0) ∧ w.cell? ⟨(ad.add (i.toNat * 13)).block, (ad.add (i.toNat * 13)).off + 1, none⟩ = some (.int .i64 (rd_T59 xs i).f1.f0) ∧ w.cell? ⟨(ad.add (i.toNat * 13)).block, (ad.add (i.toNat * 13)).off + 2, none⟩ = some (.int .i64 (rd_T59 xs i).f1.f1) ∧ w.cell? ⟨(ad.add (i.toNat * 13)).block, (ad.add (i.toNat * 13)).off + 3, none⟩ = some (.string (rd_T59 xs i).f1.f2) ∧ w.cell? ⟨(ad.add (i.toNat * 13)).block, (ad.add (i.toNat * 13)).off + 4, none⟩ = some (.slice A4 (rd_T59 xs i).f1.f3.length c4) ∧ w.cell? ⟨(ad.add (i.toNat * 13)).block, (ad.add (i.toNat * 13)).off + 5, none⟩ = some (.slice A5 (rd_T59 xs i).f1.f4.length c5) ∧ w.cell? ⟨(ad.add (i.toNat * 13)).block, (ad.add (i.toNat * 13)).off + 6, none⟩ = some (.slice A6 (rd_T59 xs i).f1.f5.length c6) ∧ w.cell? ⟨(ad.add (i.toNat * 13)).block, (ad.add (i.toNat * 13)).off + 7, none⟩ = some (.int .i64 (rd_T59 xs i).f2.f0) ∧ w.cell? ⟨(ad.add (i.toNat * 13)).block, (ad.add (i.toNat * 13)).off + 8, none⟩ = some (.int .i64 (rd_T59 xs i).f2.f1) ∧ w.cell? ⟨(ad.add (i.toNat * 13)).block, (ad.add (i.toNat * 13)).off + 9, none⟩ = some (.string (rd_T59 xs i).f2.f2) ∧ w.cell? ⟨(ad.add (i.toNat * 13)).block, (ad.add (i.toNat * 13)).off + 10, none⟩ = some (.slice A10 (rd_T59 xs i).f2.f3.length c10) ∧ w.cell? ⟨(ad.add (i.toNat * 13)).block, (ad.add (i.toNat * 13)).off + 11, none⟩ = some (.slice A11 (rd_T59 xs i).f2.f4.length c11) ∧ w.cell? ⟨(ad.add (i.toNat * 13)).block, (ad.add (i.toNat * 13)).off + 12, none⟩ = some (.slice A12 (rd_T59 xs i).f2.f5.length c12) ∧ (rd_T59 xs i).f1.f3.length ≤ c4 ∧ k113.C w A4 (rd_T59 xs i).f1.f3.length (rd_T59 xs i).f1.f3 ∧ (rd_T59 xs i).f1.f4.length ≤ c5 ∧ k49.C w A5 (rd_T59 xs i).f1.f4.length (rd_T59 xs i).f1.f4 ∧ (rd_T59 xs i).f1.f5.length ≤ c6 ∧ k90.C w A6 (rd_T59 xs i).f1.f5.length (rd_T59 xs i).f1.f5 ∧ (rd_T59 xs i).f2.f3.length ≤ c10 ∧ k113.C w A10 (rd_T59 xs i).f2.f3.length (rd_T59 xs i).f2.f3 ∧ (rd_T59 xs i).f2.f4.length ≤ c11 ∧ k49.C w A11 (rd_T59 xs i).f2.f4.length (rd_T59 xs i).f2.f4 ∧ (rd_T59 xs i).f2.f5.length ≤ c12 ∧ k90.C w A12 (rd_T59 xs i).f2.f5.length (rd_T59 xs i).f2.f5 := by
 obtain ⟨ad, c, e, _, hK, hc0⟩ := Kd.C_get h z59 i h0 h1
 have hc : ∀ j u, c[j]? = some u → w.cell? (ad.add (i.toNat * 13 + j)) = some u := hc0
 obtain ⟨A4, c4, A5, c5, A6, c6, A10, c10, A11, c11, A12, c12, rfl, l4, g4, l5, g5, l6, g6, l10, g10, l11, g11, l12, g12⟩ := k59_open hK
 exact ⟨ad, A4, c4, A5, c5, A6, c6, A10, c10, A11, c11, A12, c12, e, hc 0 _ rfl, by rw [← add_field _ _ 1 (by omega)]; exact hc 1 _ rfl, by rw [← add_field _ _ 2 (by omega)]; exact hc 2 _ rfl, by rw [← add_field _ _ 3 (by omega)]; exact hc 3 _ rfl, by rw [← add_field _ _ 4 (by omega)]; exact hc 4 _ rfl, by rw [← add_field _ _ 5 (by omega)]; exact hc 5 _ rfl, by rw [← add_field _ _ 6 (by omega)]; exact hc 6 _ rfl, by rw [← add_field _ _ 7 (by omega)]; exact hc 7 _ rfl, by rw [← add_field _ _ 8 (by omega)]; exact hc 8 _ rfl, by rw [← add_field _ _ 9 (by omega)]; exact hc 9 _ rfl, by rw [← add_field _ _ 10 (by omega)]; exact hc 10 _ rfl, by rw [← add_field _ _ 11 (by omega)]; exact hc 11 _ rfl, by rw [← add_field _ _ 12 (by omega)]; exact hc 12 _ rfl, l4, g4, l5, g5, l6, g6, l10, g10, l11, g11, l12, g12⟩
structure S98 where
 f0 : Int
 f1 : ByteArray
 f2 : Int
def z98 : S98 := ⟨(0 : Int), (⟨#[]⟩ : ByteArray), (0 : Int)⟩
def k98 : Kd S98 := Kd.iso (Kd.pair (Kd.int .i64) (Kd.pair Kd.string (Kd.int .i64))) (fun x : S98 => (x.f0, x.f1, x.f2))
theorem k98_open {w : World} {x : S98} {cs : List Value} (h : k98.K w x cs) : cs = [.int .i64 x.f0, .string x.f1, .int .i64 x.f2] := by
 obtain ⟨_, _, rfl, rfl, ⟨_, _, rfl, rfl, rfl⟩⟩ := h
 exact rfl
theorem k98_mkM (w : World) (base : Nat) (ok : Nat → Prop) (x : S98)  : k98.M w base ok x [.int .i64 x.f0, .string x.f1, .int .i64 x.f2] := ⟨[.int .i64 x.f0], [.string x.f1, .int .i64 x.f2], rfl, rfl, ⟨[.string x.f1], [.int .i64 x.f2], rfl, rfl, rfl⟩⟩
def rd_T98 (xs : List S98) (i : Int) : S98 := xs.getD i.toNat z98
theorem at_T98 {w : World} {A : Option Addr} {n : Nat} {xs : List S98} (h : Kd.C k98 w A n xs) (i : Int) (h0 : 0 ≤ i) (h1 : i < n) : ∃ ad , A = some ad ∧ w.cell? (ad.add (i.toNat * 3)) = some (.int .i64 (rd_T98 xs i).f0) ∧ w.cell? ⟨(ad.add (i.toNat * 3)).block, (ad.add (i.toNat * 3)).off + 1, none⟩ = some (.string (rd_T98 xs i).f1) ∧ w.cell? ⟨(ad.add (i.toNat * 3)).block, (ad.add (i.toNat * 3)).off + 2, none⟩ = some (.int .i64 (rd_T98 xs i).f2) := by
 obtain ⟨ad, c, e, _, hK, hc0⟩ := Kd.C_get h z98 i h0 h1
 have hc : ∀ j u, c[j]? = some u → w.cell? (ad.add (i.toNat * 3 + j)) = some u := hc0
 obtain rfl := k98_open hK
 exact ⟨ad, e, hc 0 _ rfl, by rw [← add_field _ _ 1 (by omega)]; exact hc 1 _ rfl, by rw [← add_field _ _ 2 (by omega)]; exact hc 2 _ rfl⟩
end Go.Proofs.YtahdjajdaggmjaaGreatDoor.XPa
end
section
set_option linter.unusedVariables false
set_option linter.unusedSimpArgs false
namespace Go.Proofs.YtahdjajdaggmjaaGreatDoor.XPa
open Go.RowKit Go.Proofs.YtahdjajdaggmjaaGreatDoorW.PrintWords Go.Proofs.YtahdjajdaggmjaaGreatDoorW.PrintLast Go.Proofs.YtahdjajdaggmjaaGreatDoorW.PrintMore
abbrev Tm := S49
abbrev Br := B90 S49
abbrev Cl := S113
mutual
def sizeT : Tm → Nat
 | ⟨_, _, _, _, ks, bs⟩ => sizeL ks + sizeB bs + 1
def sizeL : List Tm → Nat
 | [] => 0
 | t :: r => sizeT t + sizeL r
def sizeB : List Br → Nat
 | [] => 0
 | b :: r => sizeR b + sizeB r
def sizeR : Br → Nat
 | ⟨_, ks⟩ => sizeL ks
end
mutual
def depthT : Tm → Nat
 | ⟨_, _, _, _, ks, bs⟩ => max (depthL ks) (depthB bs) + 1
def depthL : List Tm → Nat
 | [] => 0
 | t :: r => max (depthT t) (depthL r)
def depthB : List Br → Nat
 | [] => 0
 | b :: r => max (depthR b) (depthB r)
def depthR : Br → Nat
 | ⟨_, ks⟩ => depthL ks
end
theorem sizeT_eq (t : Tm) : sizeT t = sizeL t.f4 + sizeB t.f5 + 1 := by
 cases t
 rw [sizeT]
theorem sizeR_eq (b : Br) : sizeR b = sizeL b.f1 := by
 cases b
 rw [sizeR]
theorem depthT_eq (t : Tm) : depthT t = max (depthL t.f4) (depthB t.f5) + 1 := by
 cases t
 rw [depthT]
theorem depthR_eq (b : Br) : depthR b = depthL b.f1 := by
 cases b
 rw [depthR]
theorem sizeL_mem {k : Tm} : ∀ {l : List Tm}, k ∈ l → sizeT k ≤ sizeL l
 | [], h => absurd h (by simp)
 | t :: r, h => by
  rw [sizeL]
  rcases List.mem_cons.1 h with rfl | h
  ·omega
  ·have := sizeL_mem h
   omega
theorem sizeB_mem {b : Br} : ∀ {l : List Br}, b ∈ l → sizeR b ≤ sizeB l
 | [], h => absurd h (by simp)
 | t :: r, h => by
  rw [sizeB]
  rcases List.mem_cons.1 h with rfl | h
  ·omega
  ·have := sizeB_mem h
   omega
theorem sizeT_pos (t : Tm) : 0 < sizeT t := by rw [sizeT_eq]; omega
theorem sizeT_kid {t k : Tm} (h : k ∈ t.f4) : sizeT k < sizeT t := by
 have := sizeL_mem h
 rw [sizeT_eq t]
 omega
theorem sizeT_part {t k : Tm} {b : Br} (hb : b ∈ t.f5) (h : k ∈ b.f1) : sizeT k < sizeT t := by
 have h1 := sizeL_mem h
 have h2 := sizeB_mem hb
 rw [sizeR_eq] at h2
 rw [sizeT_eq t]
 omega
theorem rd_T113_at {xs : List S113} {j : Nat} (h : j < xs.length) : rd_T113 xs ((j : Nat) : Int) = xs[j] := by
 unfold rd_T113
 rw [Int.toNat_natCast, List.getD_eq_getElem?_getD, List.getElem?_eq_getElem h]
 rfl
theorem rd_T49_at {xs : List S49} {j : Nat} (h : j < xs.length) : rd_T49 xs ((j : Nat) : Int) = xs[j] := by
 unfold rd_T49
 rw [Int.toNat_natCast, List.getD_eq_getElem?_getD, List.getElem?_eq_getElem h]
 rfl
theorem rd_T90_at {xs : List S90} {j : Nat} (h : j < xs.length) : rd_T90 xs ((j : Nat) : Int) = xs[j] := by
 unfold rd_T90
 rw [Int.toNat_natCast, List.getD_eq_getElem?_getD, List.getElem?_eq_getElem h]
 rfl
theorem at_cl {w : World} {A : Option Addr} {xs : List S113} (h : Kd.C k113 w A xs.length xs) (j : Nat) (hj : j < xs.length) : ∃ ad, A = some ad ∧ w.cell? (ad.add (j * 2)) = some (.int .u32 xs[j].f0) ∧ w.cell? ⟨(ad.add (j * 2)).block, (ad.add (j * 2)).off + 1, none⟩ = some (.int .u32 xs[j].f1) := by
 have := at_T113 h (j : Int) (by omega) (by omega)
 rwa [rd_T113_at hj, Int.toNat_natCast] at this
theorem at_tm {w : World} {A : Option Addr} {xs : List S49} (h : Kd.C k49 w A xs.length xs) (j : Nat) (hj : j < xs.length) : ∃ ad A3 c3 A4 c4 A5 c5, A = some ad ∧ w.cell? (ad.add (j * 6)) = some (.int .i64 xs[j].f0) ∧ w.cell? ⟨(ad.add (j * 6)).block, (ad.add (j * 6)).off + 1, none⟩ = some (.int .i64 xs[j].f1) ∧ w.cell? ⟨(ad.add (j * 6)).block, (ad.add (j * 6)).off + 2, none⟩ = some (.string xs[j].f2) ∧ w.cell? ⟨(ad.add (j * 6)).block, (ad.add (j * 6)).off + 3, none⟩ = some (.slice A3 xs[j].f3.length c3) ∧ w.cell? ⟨(ad.add (j * 6)).block, (ad.add (j * 6)).off + 4, none⟩ = some (.slice A4 xs[j].f4.length c4) ∧ w.cell? ⟨(ad.add (j * 6)).block, (ad.add (j * 6)).off + 5, none⟩ = some (.slice A5 xs[j].f5.length c5) ∧
  k49.K w xs[j] [.int .i64 xs[j].f0, .int .i64 xs[j].f1, .string xs[j].f2, .slice A3 xs[j].f3.length c3, .slice A4 xs[j].f4.length c4, .slice A5 xs[j].f5.length c5] := by
 obtain ⟨ad, A3, c3, A4, c4, A5, c5, e, h0, h1, h2, h3, h4, h5, l3, g3, l4, g4, l5, g5⟩ := at_T49 h (j : Int) (by omega) (by omega)
 rw [rd_T49_at hj] at h0 h1 h2 h3 h4 h5 l3 g3 l4 g4 l5 g5
 rw [Int.toNat_natCast] at h0 h1 h2 h3 h4 h5
 exact ⟨ad, A3, c3, A4, c4, A5, c5, e, h0, h1, h2, h3, h4, h5, k49_mk w xs[j] l3 g3 l4 g4 l5 g5⟩
theorem at_br {w : World} {A : Option Addr} {xs : List S90} (h : Kd.C k90 w A xs.length xs) (j : Nat) (hj : j < xs.length) : ∃ ad A0 c0 A1 c1, A = some ad ∧ w.cell? (ad.add (j * 2)) = some (.slice A0 xs[j].f0.length c0) ∧ w.cell? ⟨(ad.add (j * 2)).block, (ad.add (j * 2)).off + 1, none⟩ = some (.slice A1 xs[j].f1.length c1) ∧ xs[j].f0.length ≤ c0 ∧ Kd.C k113 w A0 xs[j].f0.length xs[j].f0 ∧ xs[j].f1.length ≤ c1 ∧ Kd.C k49 w A1 xs[j].f1.length xs[j].f1 := by
 have := at_T90 h (j : Int) (by omega) (by omega)
 rwa [rd_T90_at hj, Int.toNat_natCast] at this
def numL (n : Nat) : List Int := if h : n < 128 then [(n : Int)] else ((n % 128 + 128 : Nat) : Int) :: numL (n / 128)
termination_by n
theorem numL_lt {n : Nat} (h : n < 128) : numL n = [(n : Int)] := by
 rw [numL, dif_pos h]
theorem numL_ge {n : Nat} (h : ¬ n < 128) : numL n = ((n % 128 + 128 : Nat) : Int) :: numL (n / 128) := by
 rw [numL, dif_neg h]
theorem numL_length (n : Nat) (h : n ≤ 4294967295) : (numL n).length ≤ 5 := by
 have key : ∀ (k n : Nat), n < 128 ^ (k + 1) → (numL n).length ≤ k + 1 := by
  intro k
  induction k with
  | zero => intro n h; rw [numL_lt (by omega)]; simp
  | succ k ih =>
   intro n h
   by_cases h1 : n < 128
   ·rw [numL_lt h1]; simp
   ·rw [numL_ge h1]
    have := ih (n / 128) (by rw [Nat.pow_succ] at h; omega)
    simp; omega
 exact key 4 n (by omega)
def WSt (base : Nat) (w : World) (p : Nat) (xs : List Int) : Prop :=
 base ≤ p ∧ ∃ v, w.heap[p]? = some (.cells #[v] 56 (0, 0)) ∧ Kd.R (Kd.int .u8) 5 w base (fun _ => True) v xs
theorem uint8_info : (Tryz.prog.info? 5).map (fun i => (i.zero, i.size, i.bytes)) = some (some (.int .u8 0), 1, 1) := by kernel_rfl
theorem slice3 {α : Type} {d : Kd α} {e : Nat} {w : World} {base : Nat} {ok : Nat → Prop} {v : Value} {xs : List α} (h : d.R e w base ok v xs) : ∃ A n c, v = .slice A n c := by
 obtain ⟨A, c, rfl⟩ := Kd.R_slice h
 exact ⟨A, _, c, rfl⟩
theorem WSt.open_ {base p : Nat} {w : World} {xs : List Int} (h : WSt base w p xs) : base ≤ p ∧ ∃ A n c, w.heap[p]? = some (.cells #[.slice A n c] 56 (0, 0)) ∧ Kd.R (Kd.int .u8) 5 w base (fun k => k ≠ p) (.slice A n c) xs := by
 obtain ⟨hp, v, hv, hr⟩ := h
 obtain ⟨A, n, c, rfl⟩ := slice3 hr
 exact ⟨hp, A, n, c, hv, Kd.R_mono (Kd.R_types hr hv (by decide)) (fun _ hk => hk.2)⟩
theorem WSt.put {base p : Nat} {w : World} {xs : List Int} {u v : Value} (hp : base ≤ p) (hv : w.heap[p]? = some (.cells #[u] 56 (0, 0))) (hr : Kd.R (Kd.int .u8) 5 w base (fun _ => True) v xs) : WSt base (w.setCell ⟨p, 0, none⟩ v) p xs :=
 ⟨hp, v, one_setCell hv, Kd.R_set hr hv (by decide) 0 v⟩
theorem WSt.below {base p : Nat} {w w1 : World} {xs : List Int} (h : WSt base w p xs) (hb : Below w.heap.size w w1) : WSt base w1 p xs := by
 obtain ⟨hp, v, hv, hr⟩ := h
 exact ⟨hp, v, blk_below hv hb, Kd.R_below hr hb⟩
theorem WSt.lt {base p : Nat} {w : World} {xs : List Int} (h : WSt base w p xs) : p < w.heap.size := by
 obtain ⟨hp, v, hv, hr⟩ := h
 exact blk_lt hv
def KeepW (p : Nat) (w w' : World) : Prop := w.heap.size ≤ w'.heap.size ∧ ∀ k o, w.heap[k]? = some o → k ≠ p → (∀ cs, o ≠ .cells cs 5 (0, 0)) → w'.heap[k]? = some o
theorem KeepW.refl (p : Nat) (w : World) : KeepW p w w := ⟨Nat.le_refl _, fun _ _ h _ _ => h⟩
theorem KeepW.trans {p : Nat} {w w1 w2 : World} (h : KeepW p w w1) (h2 : KeepW p w1 w2) : KeepW p w w2 := ⟨Nat.le_trans h.1 h2.1, fun k o ho hk hn => h2.2 k o (h.2 k o ho hk hn) hk hn⟩
theorem KeepW.below {p : Nat} {w w1 w2 : World} (h : KeepW p w w1) (hb : Below w1.heap.size w1 w2) : KeepW p w w2 := h.trans ⟨hb.size, fun k o ho _ _ => blk_below ho hb⟩
theorem KeepW.set {p : Nat} {w w1 : World} (h : KeepW p w w1) (i : Nat) (u : Value) : KeepW p w (w1.setCell ⟨p, i, none⟩ u) :=
 h.trans ⟨by simp, fun k o ho hk _ => (Below.heap_setCell w1 ⟨p, i, none⟩ u k hk).trans ho⟩
theorem KeepW.grown {p base : Nat} {ok : Nat → Prop} {w w1 w2 : World} {v : Value} {ys : List Int} (h : KeepW p w w1) (hr : Kd.R (Kd.int .u8) 5 w1 base ok v ys) (hg : w1.grownBy w2 v.ownBlock) : KeepW p w w2 :=
 h.trans ⟨hg.size, fun k o ho _ hn => by
  refine (hg.block k (blk_lt ho) fun e => ?_).trans ho
  obtain ⟨inner, hown⟩ := Kd.R_own hr
  obtain ⟨cs, hcs⟩ := own_typed hown k e.symm
  rw [ho] at hcs
  exact hn cs (Option.some.inj hcs)⟩
theorem KeepW.blk {p g : Nat} {w w1 : World} {cs : Array Value} {t : TypeId} (h : KeepW p w w1) (hg : w.heap[g]? = some (.cells cs t (0, 0))) (hp : g ≠ p) (ht : t ≠ 5) : w1.heap[g]? = some (.cells cs t (0, 0)) :=
 h.2 g _ hg hp (fun cs' e => ht (by injection e))
theorem WSt.ne {base p g : Nat} {w : World} {xs : List Int} {cs : Array Value} {t : TypeId} (h : WSt base w p xs) (hg : w.heap[g]? = some (.cells cs t (0, 0))) (ht : t ≠ 56) : g ≠ p := by
 obtain ⟨hp, v, hv, hr⟩ := h
 exact blk_ne hg hv ht
set_option maxRecDepth 100000 in
theorem or128 : ∀ r : Fin 256, bits .or .u8 ((r.val : Nat) : Int) 128 = ((r.val % 128 + 128 : Nat) : Int) := by decide
theorem or128' (m : Nat) : bits .or .u8 ((m : Int) % 256) 128 = ((m % 128 + 128 : Nat) : Int) := by
 have h := or128 ⟨m % 256, Nat.mod_lt _ (by omega)⟩
 rw [show (m : Int) % 256 = ((m % 256 : Nat) : Int) by omega, h]
 congr 1
 dsimp only
 omega
theorem app_byte {ops : Array Oper} {rest : List Oper} {o : Oper} {a : Act} {Q : Exit → Act → World → Prop} {w0 W : World} {p : Nat} {A : Option Addr} {n c : Nat} (hgd : o.guard = none) (s x : Operand)
  (ho : o.op = .call { callee := .builtin .append, args := #[s, x], argTypes := #[23, 23] }) (ys : List Int) (y : Int)
  (hs : a.eval s = .slice A n c) (hx : a.eval x = .slice (some ⟨W.heap.size, 0, none⟩) 1 1) (HV : W.heap[p]? = some (.cells #[.slice A n c] 56 (0, 0)))
  (HR : Kd.R (Kd.int .u8) 5 W w0.heap.size (fun k => k ≠ p) (.slice A n c) ys) (HB : Below w0.heap.size w0 W) (hl : ys.length ≤ 2000000000)
  (h : ∀ A1 n1 c1 w1, Kd.R (Kd.int .u8) 5 w1 w0.heap.size (fun _ => True) (.slice A1 n1 c1) (ys ++ [y]) → Below w0.heap.size w0 w1 → w1.heap[p]? = some (.cells #[.slice A n c] 56 (0, 0)) → (∀ w2, KeepW p w2 W → KeepW p w2 w1) → wpList Tryz.prog ops Q rest (a.put o.dst (.slice A1 n1 c1)) w1) :
  wpList Tryz.prog ops Q (o :: rest) a (W.alloc (.cells #[.int .u8 y] 5)) := by
 refine Kd.R_append (Kd.int .u8) (w0 := w0) w0.heap.size hgd s x 23 5 (.int .u8 0) 1 ho Tryz.underlying23 uint8_info rfl (by decide) (by omega) (.slice A n c) ys y [.int .u8 y] (fun k => k ≠ p) (fun _ => False) hs hx rfl (fun _ hk => hk.elim) (fun k hk e => by have := blk_lt HV; omega) HR HB HB.size (by omega) ?_
 intro v1 w1 ho1 hb1 hg1 hat1
 obtain ⟨A1, n1, c1, rfl⟩ := slice3 ho1
 exact h A1 n1 c1 w1 (Kd.R_mono ho1 (fun _ _ => trivial)) hb1 (blk_grown HV hg1 (Kd.R_away HR (fun _ hk => hk))) (fun _ hk => hk.grown HR hg1)
set_option maxHeartbeats 1000000 in
set_option maxRecDepth 100000 in
theorem writer_number (w0 : World) (p n : Nat) (xs : List Int) (w : World) (hn : n ≤ 4294967295) (hb : Below w0.heap.size w0 w) (hs : WSt w0.heap.size w p xs) (hl : xs.length ≤ 1000000000) :
  Calls Tryz.prog 19 #[.pointer (some ⟨p, 0, none⟩), .int .u64 (n : Int)] w fun e w' => e = .returned (.tuple #[]) ∧ Below w0.heap.size w0 w' ∧ WSt w0.heap.size w' p (xs ++ numL n) ∧ KeepW p w w' := by
 have HL := numL_length n hn
 have HB := Aside0.mk hb
 have HS := Aside0.mk hs
 clear hb hs
 go_enter Tryz.func19, Tryz.ntmps19
 go_wp2
 go_loopg [1] (numL n).length (fun kq v1 w' => ∃ (m : Nat) (ys : List Int), v1 = .int .u64 (m : Int) ∧ m ≤ 4294967295 ∧ Aside0 (ys ++ numL m = xs ++ numL n) ∧ kq = (numL m).length ∧ ys.length + kq ≤ 1000000010 ∧ Aside0 (Below w0.heap.size w0 w') ∧ Aside0 (WSt w0.heap.size w' p ys) ∧ Aside0 (KeepW p w w'))
 case atStart => exact ⟨n, xs, rfl, hn, ⟨rfl⟩, rfl, by omega, HB, HS, ⟨KeepW.refl _ _⟩⟩
 case round =>
  clear HB HS HL
  obtain ⟨m, ys, rfl, hm, hR, hk, hyl, HB, HS, HKW⟩ := hrel
  obtain ⟨hp, A, n0, c0, hv, hr⟩ := HS.out.open_
  have HR := Aside0.mk hr
  have HV := Aside0.mk hv
  have hc := cell_of_one hv
  have hf := free_of_one hv
  have HP := Aside0.mk hp
  have HK := Aside0.mk hk
  clear hr hv HS hp hk
  by_cases h1 : m < 128
  ·have hd : decide ((128 : Int) ≤ (m : Int)) = false := decide_eq_false (by omega)
   go_wp2_with (at_builtin; refine app_byte (w0 := w0) rfl (.tmp 24) (.tmp 27) rfl ys (m : Int) rfl rfl HV.out HR.out HB.out (by omega) ?_; intro A1 n1 c1 w1 ho1 hb1 hv1 hkw; have HKW1 := Aside0.mk (hkw _ HKW.out); clear hkw; have HV1 := Aside0.mk hv1; have hc1 := cell_of_one hv1; have hf1 := free_of_one hv1; have HO1 := Aside0.mk ho1; have HB1 := Aside0.mk hb1; clear ho1 hb1 hv1)
   go_end0
   exact ⟨rfl, HB1.out.setCell HP.out _, by rw [← hR.out, numL_lt h1]; exact WSt.put HP.out HV1.out HO1.out, HKW1.out.set _ _⟩
  ·have hd : decide ((128 : Int) ≤ (m : Int)) = true := decide_eq_true (by omega)
   have hq : bits .or .u8 ((m : Int) % 256) 128 = ((m % 128 + 128 : Nat) : Int) := or128' m
   go_wp2_with (at_builtin; refine app_byte (w0 := w0) rfl (.tmp 10) (.tmp 14) rfl ys ((m % 128 + 128 : Nat) : Int) rfl rfl HV.out HR.out HB.out (by omega) ?_; intro A1 n1 c1 w1 ho1 hb1 hv1 hkw; have HKW1 := Aside0.mk (hkw _ HKW.out); clear hkw; have HV1 := Aside0.mk hv1; have hc1 := cell_of_one hv1; have hf1 := free_of_one hv1; have HO1 := Aside0.mk ho1; have HB1 := Aside0.mk hb1; clear ho1 hb1 hv1)
   go_roundg (gk - 1)
   case measure => rw [HK.out, numL_ge h1]; simp
   case rel =>
    exact ⟨m / 128, ys ++ [((m % 128 + 128 : Nat) : Int)], rfl, by omega, ⟨by rw [List.append_assoc, ← hR.out, numL_ge h1]; rfl⟩, by rw [HK.out, numL_ge h1]; simp, by rw [List.length_append, List.length_singleton]; rw [HK.out, numL_ge h1, List.length_cons] at hyl; rw [HK.out, numL_ge h1, List.length_cons]; omega, ⟨HB1.out.setCell HP.out _⟩, ⟨WSt.put HP.out HV1.out HO1.out⟩, ⟨HKW1.out.set _ _⟩⟩
theorem app_str {ops : Array Oper} {rest : List Oper} {o : Oper} {a : Act} {Q : Exit → Act → World → Prop} {w0 W : World} {p : Nat} {A : Option Addr} {n c : Nat} (hgd : o.guard = none) (s x : Operand)
  (ho : o.op = .call { callee := .builtin .append, args := #[s, x], argTypes := #[23, 9] }) (ys : List Int) (y : ByteArray)
  (hs : a.eval s = .slice A n c) (hx : a.eval x = .string y) (HV : W.heap[p]? = some (.cells #[.slice A n c] 56 (0, 0)))
  (HR : Kd.R (Kd.int .u8) 5 W w0.heap.size (fun k => k ≠ p) (.slice A n c) ys) (HB : Below w0.heap.size w0 W) (hl : ys.length + y.size ≤ 2000000000)
  (h : ∀ A1 n1 c1 w1, Kd.R (Kd.int .u8) 5 w1 w0.heap.size (fun _ => True) (.slice A1 n1 c1) (ys ++ bytesOf y) → Below w0.heap.size w0 w1 → w1.heap[p]? = some (.cells #[.slice A n c] 56 (0, 0)) → (∀ w2, KeepW p w2 W → KeepW p w2 w1) → wpList Tryz.prog ops Q rest (a.put o.dst (.slice A1 n1 c1)) w1) :
  wpList Tryz.prog ops Q (o :: rest) a W := by
 refine print_append_str (w0 := w0) w0.heap.size hgd s x 23 9 5 ho Tryz.underlying23 Tryz.underlying9 uint8_info (.slice A n c) ys y hs hx (Kd.own_of_R HR) HB HB.size (by omega) ?_
 intro v1 w1 ho1 hb1 hg1
 have ho2 : Kd.R (Kd.int .u8) 5 w1 w0.heap.size (fun _ => True) v1 (ys ++ bytesOf y) := Kd.R_of_own ho1 (fun _ _ => trivial)
 obtain ⟨A1, n1, c1, rfl⟩ := slice3 ho2
 exact h A1 n1 c1 w1 ho2 hb1 (blk_grown HV hg1 (Kd.R_away HR (fun _ hk => hk))) (fun _ hk => hk.grown HR hg1)
def textL (s : ByteArray) : List Int := numL s.size ++ bytesOf s
set_option maxHeartbeats 1000000 in
set_option maxRecDepth 100000 in
theorem writer_text (w0 : World) (p : Nat) (s : ByteArray) (xs : List Int) (w : World) (hn : s.size ≤ 2000000) (hb : Below w0.heap.size w0 w) (hs : WSt w0.heap.size w p xs) (hl : xs.length ≤ 100000000) :
  Calls Tryz.prog 20 #[.pointer (some ⟨p, 0, none⟩), .string s] w fun e w' => e = .returned (.tuple #[]) ∧ Below w0.heap.size w0 w' ∧ WSt w0.heap.size w' p (xs ++ textL s) ∧ KeepW p w w' := by
 have HL := numL_length s.size (by omega)
 have hx : (xs ++ numL s.size).length ≤ 100000005 := by rw [List.length_append]; omega
 have hc := writer_number w0 p s.size xs w (by omega) hb hs (by omega)
 go_enter Tryz.func20, Tryz.ntmps20
 go_wp2_with (first | (go_at_call 19; refine hc.mono ?_; rintro e w1 ⟨rfl, hb1, hs1, hkw1⟩; have HKW := Aside0.mk hkw1; clear hkw1; obtain ⟨hp, A, n0, c0, hv, hr⟩ := hs1.open_; have HR := Aside0.mk hr; have HV := Aside0.mk hv; have HB := Aside0.mk hb1; have HP := Aside0.mk hp; have hc1 := cell_of_one hv; have hf1 := free_of_one hv; clear hr hv hs1 hb1 hp) | (at_builtin; refine app_str (w0 := w0) rfl (.tmp 13) (.tmp 14) rfl _ s rfl rfl HV.out HR.out HB.out (by omega) ?_; intro A1 n1 c1 w2 ho1 hb1 hv1 hkw; have HKW1 := Aside0.mk (hkw _ HKW.out); clear hkw; have HV1 := Aside0.mk hv1; have hc2 := cell_of_one hv1; have hf2 := free_of_one hv1; have HO1 := Aside0.mk ho1; have HB1 := Aside0.mk hb1; clear ho1 hb1 hv1))
 go_end0
 exact ⟨rfl, HB1.out.setCell HP.out _, by rw [textL, ← List.append_assoc]; exact WSt.put HP.out HV1.out HO1.out, HKW1.out.set _ _⟩
end Go.Proofs.YtahdjajdaggmjaaGreatDoor.XPa
end
