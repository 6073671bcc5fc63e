-- Written for this claim by a program of ours (wip/xp.py), out of the translation and of hand-written contracts.
import Derived.Test.YtahdjajdaggmjaaDoorProg
import Derived.Below
import Derived.Deep.Draws
import Derived.Deep.AppendLies
import Derived.Maps.AppendAt
import Derived.OwnWalk
import Derived.Laws.BytesArg
import Derived.Laws.MakeOwn
import Derived.Laws.OwnMore
import Derived.Deep.OwnRows
import Derived.Tactics
import Derived.Lib.ConvBytes
import Derived.Laws.Slices
import Derived.WalkKit
import Derived.KernelRfl
import Derived.RowKit3
import Derived.Deep.LoopGhost
import Derived.Deep.QuietTactic
import Derived.BigQuiet
import Derived.WideLaws
import Derived.Deep.DeepCutAuto
import Derived.Deep.CutBlock
import Derived.Deep.RegionHeld3
import Derived.Laws.Rows
import Derived.Lib.AppendStr
import Derived.ArgAppend
import Derived.Laws.IdiomCopy
import Derived.OrdersHeld
import Derived.Laws.BitsLemmas
import Derived.RowKit
import Derived.Test.YtahdjajdaggmjaaDoorWd
import Derived.Test.YtahdjajdaggmjaaDoorLst
import Derived.Test.YtahdjajdaggmjaaDoorFd
import Derived.Test.YtahdjajdaggmjaaDoorLexP
import Derived.Test.YtahdjajdaggmjaaDoorOne
import Derived.Test.YtahdjajdaggmjaaDoorWWords
import Derived.Test.YtahdjajdaggmjaaDoorWLast
import Derived.Test.YtahdjajdaggmjaaDoorWAll
namespace Go.Proofs.YtahdjajdaggmjaaDoor.XPo
open Go.RowKit Go.Proofs.YtahdjajdaggmjaaDoorW.PrintWords Go.Proofs.YtahdjajdaggmjaaDoorW.PrintLast Go.Proofs.YtahdjajdaggmjaaDoorW.PrintMore
attribute [local go_sem] max2_int min2_int max_two min_two max_three min_three max_four min_four   -- for this text's walks alone
set_option linter.unusedVariables false
set_option linter.unusedSimpArgs false



def errW : Option Int → Value
  | none => .nilIface
  | some c => .iface 0 (.int .i64 c)
theorem errW_none : errW none = .nilIface := rfl
theorem errW_some (c : Int) : errW (some c) = .iface 0 (.int .i64 c) := rfl

theorem info5 : (Tryd.prog.info? 5).map (fun i => (i.zero, i.size, i.bytes)) = some (some (.int .u8 0), 1, 1) := by kernel_rfl
theorem info87 : (Tryd.prog.info? 87).map (fun i => (i.zero, i.size, i.bytes)) = some (some (.agg #[(.int .i64 0), (.string ⟨#[]⟩), (.int .i64 0)]), 3, 32) := by kernel_rfl
-- the values' own types
/-! #### struct type 87 -/
structure S87 where
  f0 : Int
  f1 : ByteArray
  f2 : Int
def z87 : S87 := ⟨(0 : Int), (⟨#[]⟩ : ByteArray), (0 : Int)⟩
def k87 : Kd S87 := Kd.iso (Kd.pair (Kd.int .i64) (Kd.pair Kd.string (Kd.int .i64))) (fun x : S87 => (x.f0, x.f1, x.f2))
theorem k87_open {w : World} {x : S87} {cs : List Value} (h : k87.K w x cs) : cs = [.int .i64 x.f0, .string x.f1, .int .i64 x.f2] := by
  obtain ⟨_, _, rfl, rfl, ⟨_, _, rfl, rfl, rfl⟩⟩ := h
  exact rfl
theorem k87_mkM (w : World) (base : Nat) (ok : Nat → Prop) (x : S87)  : k87.M w base ok x [.int .i64 x.f0, .string x.f1, .int .i64 x.f2] := ⟨[.int .i64 x.f0], [.string x.f1, .int .i64 x.f2], rfl, rfl, ⟨[.string x.f1], [.int .i64 x.f2], rfl, rfl, rfl⟩⟩
def rd_T87 (xs : List S87) (i : Int) : S87 := xs.getD i.toNat z87
theorem at_T87 {w : World} {A : Option Addr} {n : Nat} {xs : List S87} (h : Kd.C k87 w A n xs) (i : Int) (h0 : 0 ≤ i) (h1 : i < n) : ∃ ad , A = some ad ∧ w.cell? (ad.add (i.toNat * 3)) = some (.int .i64 (rd_T87 xs i).f0) ∧ w.cell? ⟨(ad.add (i.toNat * 3)).block, (ad.add (i.toNat * 3)).off + 1, none⟩ = some (.string (rd_T87 xs i).f1) ∧ w.cell? ⟨(ad.add (i.toNat * 3)).block, (ad.add (i.toNat * 3)).off + 2, none⟩ = some (.int .i64 (rd_T87 xs i).f2) := by
  obtain ⟨ad, c, e, _, hK, hc0⟩ := Kd.C_get h z87 i h0 h1
  have hc : ∀ j u, c[j]? = some u → w.cell? (ad.add (i.toNat * 3 + j)) = some u := hc0
  obtain rfl := k87_open hK
  exact ⟨ad, e, hc 0 _ rfl, by rw [← add_field _ _ 1 (by omega)]; exact hc 1 _ rfl, by rw [← add_field _ _ 2 (by omega)]; exact hc 2 _ rfl⟩

/-! #### struct type 91 -/
structure S91 where
  f0 : Int
  f1 : Int
def z91 : S91 := ⟨(0 : Int), (0 : Int)⟩
def k91 : Kd S91 := Kd.iso (Kd.pair (Kd.int .u32) (Kd.int .u32)) (fun x : S91 => (x.f0, x.f1))
theorem k91_open {w : World} {x : S91} {cs : List Value} (h : k91.K w x cs) : cs = [.int .u32 x.f0, .int .u32 x.f1] := by
  obtain ⟨_, _, rfl, rfl, rfl⟩ := h
  exact rfl
theorem k91_mk (w : World) (x : S91)  : k91.K w x [.int .u32 x.f0, .int .u32 x.f1] := ⟨[.int .u32 x.f0], [.int .u32 x.f1], rfl, rfl, rfl⟩
theorem k91_mkM (w : World) (base : Nat) (ok : Nat → Prop) (x : S91)  : k91.M w base ok x [.int .u32 x.f0, .int .u32 x.f1] := ⟨[.int .u32 x.f0], [.int .u32 x.f1], rfl, rfl, rfl⟩
def rd_T91 (xs : List S91) (i : Int) : S91 := xs.getD i.toNat z91
theorem at_T91 {w : World} {A : Option Addr} {n : Nat} {xs : List S91} (h : Kd.C k91 w A n xs) (i : Int) (h0 : 0 ≤ i) (h1 : i < n) : ∃ ad , A = some ad ∧ w.cell? (ad.add (i.toNat * 2)) = some (.int .u32 (rd_T91 xs i).f0) ∧ w.cell? ⟨(ad.add (i.toNat * 2)).block, (ad.add (i.toNat * 2)).off + 1, none⟩ = some (.int .u32 (rd_T91 xs i).f1) := by
  obtain ⟨ad, c, e, _, hK, hc0⟩ := Kd.C_get h z91 i h0 h1
  have hc : ∀ j u, c[j]? = some u → w.cell? (ad.add (i.toNat * 2 + j)) = some u := hc0
  obtain rfl := k91_open hK
  exact ⟨ad, e, hc 0 _ rfl, by rw [← add_field _ _ 1 (by omega)]; exact hc 1 _ rfl⟩

/-! #### struct type 45, nested in itself -/
structure B73 (α : Type) where
  f0 : (List S91)
  f1 : List α
def G73 {α : Type} (d : Kd α) : Kd (B73 α) := Kd.iso (Kd.pair (Kd.slice 91 k91) (Kd.slice 45 d)) (fun x : B73 α => (x.f0, x.f1))
theorem monoG73 {α : Type} : Kd.Mono (fun d : Kd α => G73 d) := Kd.mono_iso _ (Kd.mono_pair (Kd.mono_const _) (Kd.mono_slice 45 Kd.mono_id))
theorem subG73 {α : Type} : Kd.Sub (fun d : Kd α => G73 d) [45, 73, 91] := Kd.sub_iso _ (Kd.sub_pair (Kd.sub_const _ (by decide)) (Kd.sub_slice 45 (by decide) Kd.sub_id))
structure S45 where
  f0 : Int
  f1 : Int
  f2 : ByteArray
  f3 : (List S91)
  f4 : (List S45)
  f5 : (List (B73 S45))
def z45 : S45 := ⟨(0 : Int), (0 : Int), (⟨#[]⟩ : ByteArray), ([] : List S91), ([] : List S45), ([] : List (B73 S45))⟩
def F45 (d : Kd S45) : Kd S45 := Kd.iso (Kd.pair (Kd.int .i64) (Kd.pair (Kd.int .i64) (Kd.pair Kd.string (Kd.pair (Kd.slice 91 k91) (Kd.pair (Kd.slice 45 d) (Kd.slice 73 (G73 d))))))) (fun x : S45 => (x.f0, x.f1, x.f2, x.f3, x.f4, x.f5))
theorem mono45 : Kd.Mono F45 := Kd.mono_iso _ (Kd.mono_pair (Kd.mono_const _) (Kd.mono_pair (Kd.mono_const _) (Kd.mono_pair (Kd.mono_const _) (Kd.mono_pair (Kd.mono_const _) (Kd.mono_pair (Kd.mono_slice 45 Kd.mono_id) (Kd.mono_slice 73 monoG73))))))
theorem sub45 : Kd.Sub F45 [45, 73, 91] := Kd.sub_iso _ (Kd.sub_pair (Kd.sub_const _ (by decide)) (Kd.sub_pair (Kd.sub_const _ (by decide)) (Kd.sub_pair (Kd.sub_const _ (by decide)) (Kd.sub_pair (Kd.sub_const _ (by decide)) (Kd.sub_pair (Kd.sub_slice 45 (by decide) Kd.sub_id) (Kd.sub_slice 73 (by decide) subG73))))))
theorem sz45 : ∀ n, (Kd.upto F45 6 [45, 73, 91] n).sz = 6 := Kd.upto_sz (fun _ => rfl)
def k45 : Kd S45 := Kd.fix F45 6 [45, 73, 91] sz45 (Kd.upto_E sub45)
def k73 : Kd (B73 S45) := G73 k45
theorem via73_C {n : Nat} {w : World} {A : Option Addr} {m : Nat} {xs : List (B73 S45)} (h : (G73 (Kd.upto F45 6 [45, 73, 91] n)).C w A m xs) : k73.C w A m xs := Kd.C_imp (d' := k73) (monoG73.sz _ _ (sz45 n)) (fun w x cs hp => monoG73.K _ k45 (sz45 n) (fun _ _ _ hk => ⟨n, hk⟩) w x cs hp) h
theorem via73_R {n : Nat} {e : Nat} {w : World} {base : Nat} {ok : Nat → Prop} {v : Value} {xs : List (B73 S45)} (h : (G73 (Kd.upto F45 6 [45, 73, 91] n)).R e w base ok v xs) : k73.R e w base ok v xs := Kd.R_imp (d' := k73) (monoG73.sz _ _ (sz45 n)) (fun w base ok x cs hp => monoG73.M _ k45 (sz45 n) (fun _ _ _ _ _ hk => ⟨n, hk⟩) w base ok x cs hp) h
theorem via73_K_le {n m : Nat} (hnm : n ≤ m) {w : World} {x : B73 S45} {cs : List Value} (h : (G73 (Kd.upto F45 6 [45, 73, 91] n)).K w x cs) : (G73 (Kd.upto F45 6 [45, 73, 91] m)).K w x cs := monoG73.K _ _ (by rw [sz45 n, sz45 m]) (fun _ _ _ hk => Kd.upto_K_le mono45 sz45 hnm hk) w x cs h
theorem via73_M_le {n m : Nat} (hnm : n ≤ m) {w : World} {base : Nat} {ok : Nat → Prop} {x : B73 S45} {cs : List Value} (h : (G73 (Kd.upto F45 6 [45, 73, 91] n)).M w base ok x cs) : (G73 (Kd.upto F45 6 [45, 73, 91] m)).M w base ok x cs := monoG73.M _ _ (by rw [sz45 n, sz45 m]) (fun _ _ _ _ _ hk => Kd.upto_M_le mono45 sz45 hnm hk) w base ok x cs h
theorem via73_C_le {n m : Nat} (hnm : n ≤ m) {w : World} {A : Option Addr} {l : Nat} {xs : List (B73 S45)} (h : (G73 (Kd.upto F45 6 [45, 73, 91] n)).C w A l xs) : (G73 (Kd.upto F45 6 [45, 73, 91] m)).C w A l xs := Kd.C_imp (monoG73.sz _ _ (by rw [sz45 n, sz45 m])) (fun _ _ _ hp => via73_K_le hnm hp) h
theorem via73_R_le {n m : Nat} (hnm : n ≤ m) {e : Nat} {w : World} {base : Nat} {ok : Nat → Prop} {v : Value} {xs : List (B73 S45)} (h : (G73 (Kd.upto F45 6 [45, 73, 91] n)).R e w base ok v xs) : (G73 (Kd.upto F45 6 [45, 73, 91] m)).R e w base ok v xs := Kd.R_imp (monoG73.sz _ _ (by rw [sz45 n, sz45 m])) (fun _ _ _ _ _ hp => via73_M_le hnm hp) h
theorem via73_K_back {w : World} {x : B73 S45} {cs : List Value} (h : k73.K w x cs) : ∃ n, (G73 (Kd.upto F45 6 [45, 73, 91] n)).K w x cs := by
  obtain ⟨_, _, rfl, ⟨A0, c0, rfl, l0, g0⟩, ⟨A1, c1, rfl, l1, g1⟩⟩ := h
  obtain ⟨n1, q1⟩ := Kd.fix_C_back mono45 g1
  have r1 := Kd.upto_C_le mono45 sz45 (show n1 ≤ n1 by omega) q1
  exact ⟨n1, ⟨_, _, rfl, ⟨A0, c0, rfl, l0, g0⟩, ⟨A1, c1, rfl, l1, r1⟩⟩⟩
theorem via73_M_back {w : World} {base : Nat} {ok : Nat → Prop} {x : B73 S45} {cs : List Value} (h : k73.M w base ok x cs) : ∃ n, (G73 (Kd.upto F45 6 [45, 73, 91] n)).M w base ok x cs := by
  obtain ⟨_, _, rfl, ⟨v0, rfl, g0⟩, ⟨v1, rfl, g1⟩⟩ := h
  obtain ⟨n1, q1⟩ := Kd.fix_R_back mono45 g1
  have r1 := Kd.upto_R_le mono45 sz45 (show n1 ≤ n1 by omega) q1
  exact ⟨n1, ⟨_, _, rfl, ⟨v0, rfl, g0⟩, ⟨v1, rfl, r1⟩⟩⟩
theorem via73_R_back {e : Nat} {w : World} {base : Nat} {ok : Nat → Prop} {v : Value} {xs : List (B73 S45)} (h : k73.R e w base ok v xs) : ∃ n, (G73 (Kd.upto F45 6 [45, 73, 91] n)).R e w base ok v xs := by
  obtain ⟨h0, inner, ho, hr⟩ := h
  obtain ⟨N, hN⟩ := Kd.reps_bounded (R := fun n p c => (G73 (Kd.upto F45 6 [45, 73, 91] n)).M w base (fun k => ok k ∧ some k ≠ v.ownBlock) p c) (fun n m p c hnm hp => via73_M_le hnm hp) (hr.imp_ (fun _ _ hp => via73_M_back hp))
  exact ⟨N, h0, inner, ho, hN⟩
theorem via73_C_back {w : World} {A : Option Addr} {m : Nat} {xs : List (B73 S45)} (h : k73.C w A m xs) : ∃ n, (G73 (Kd.upto F45 6 [45, 73, 91] n)).C w A m xs := by
  rcases Nat.eq_zero_or_pos m with hz | hpos
  · subst hz
    exact ⟨0, h.1, h.2.1, fun hp => absurd hp (Nat.lt_irrefl 0)⟩
  · obtain ⟨ad, e, hc⟩ := h.2.2 hpos
    obtain ⟨N, hN⟩ := Kd.bounded (P := fun n j => ∀ p, xs[j]? = some p → ∃ c, c.length = 2 ∧ (G73 (Kd.upto F45 6 [45, 73, 91] n)).K w p c ∧ ∀ i u, c[i]? = some u → w.cell? (ad.add (j * 2 + i)) = some u)
      (fun n n' j hnm hp p hj => by
        obtain ⟨c, h1, h2, h3⟩ := hp p hj
        exact ⟨c, h1, via73_K_le hnm h2, h3⟩) xs.length
      (fun j hj => by
        obtain ⟨c, h1, h2, h3⟩ := hc j _ (List.getElem?_eq_getElem hj)
        obtain ⟨n, h2⟩ := via73_K_back h2
        refine ⟨n, fun p hp => ?_⟩
        rw [List.getElem?_eq_getElem hj] at hp
        injection hp with hp
        rw [← hp]
        exact ⟨c, h1, h2, h3⟩)
    refine ⟨N, h.1, h.2.1, fun _ => ⟨ad, e, fun j p hj => ?_⟩⟩
    exact hN j (List.getElem?_eq_some_iff.1 hj).1 p hj
theorem k45_open {w : World} {x : S45} {cs : List Value} (h : k45.K w x cs) : ∃ A3 c3 A4 c4 A5 c5, cs = [.int .i64 x.f0, .int .i64 x.f1, .string x.f2, .slice A3 x.f3.length c3, .slice A4 x.f4.length c4, .slice A5 x.f5.length c5] ∧ x.f3.length ≤ c3 ∧ k91.C w A3 x.f3.length x.f3 ∧ x.f4.length ≤ c4 ∧ k45.C w A4 x.f4.length x.f4 ∧ x.f5.length ≤ c5 ∧ k73.C w A5 x.f5.length x.f5 := by
  obtain ⟨n, h⟩ := h
  cases n with
  | zero => exact h.elim
  | succ n =>
    obtain ⟨_, _, rfl, rfl, ⟨_, _, rfl, rfl, ⟨_, _, rfl, rfl, ⟨_, _, rfl, ⟨A3, c3, rfl, l3, g3⟩, ⟨_, _, rfl, ⟨A4, c4, rfl, l4, g4⟩, ⟨A5, c5, rfl, l5, g5⟩⟩⟩⟩⟩⟩ := h
    exact ⟨A3, c3, A4, c4, A5, c5, rfl, l3, g3, l4, Kd.fix_C g4, l5, via73_C g5⟩
theorem k45_openM {w : World} {base : Nat} {ok : Nat → Prop} {x : S45} {cs : List Value} (h : k45.M w base ok x cs) : ∃ v3 v4 v5, cs = [.int .i64 x.f0, .int .i64 x.f1, .string x.f2, v3, v4, v5] ∧ k91.R 91 w base ok v3 x.f3 ∧ k45.R 45 w base ok v4 x.f4 ∧ k73.R 73 w base ok v5 x.f5 := by
  obtain ⟨n, h⟩ := h
  cases n with
  | zero => exact h.elim
  | succ n =>
    obtain ⟨_, _, rfl, rfl, ⟨_, _, rfl, rfl, ⟨_, _, rfl, rfl, ⟨_, _, rfl, ⟨v3, rfl, g3⟩, ⟨_, _, rfl, ⟨v4, rfl, g4⟩, ⟨v5, rfl, g5⟩⟩⟩⟩⟩⟩ := h
    exact ⟨v3, v4, v5, rfl, g3, Kd.fix_R g4, via73_R g5⟩
theorem k45_mk (w : World) (x : S45) {A3 : Option Addr} {c3 : Nat} (l3 : x.f3.length ≤ c3) (g3 : k91.C w A3 x.f3.length x.f3) {A4 : Option Addr} {c4 : Nat} (l4 : x.f4.length ≤ c4) (g4 : k45.C w A4 x.f4.length x.f4) {A5 : Option Addr} {c5 : Nat} (l5 : x.f5.length ≤ c5) (g5 : k73.C w A5 x.f5.length x.f5) : k45.K w x [.int .i64 x.f0, .int .i64 x.f1, .string x.f2, .slice A3 x.f3.length c3, .slice A4 x.f4.length c4, .slice A5 x.f5.length c5] := by
  obtain ⟨n4, q4⟩ := Kd.fix_C_back mono45 g4
  obtain ⟨n5, q5⟩ := via73_C_back g5
  have r4 := Kd.upto_C_le mono45 sz45 (show n4 ≤ (max n4 n5) by omega) q4
  have r5 := via73_C_le (show n5 ≤ (max n4 n5) by omega) q5
  exact ⟨(max n4 n5) + 1, ⟨[.int .i64 x.f0], [.int .i64 x.f1, .string x.f2, .slice A3 x.f3.length c3, .slice A4 x.f4.length c4, .slice A5 x.f5.length c5], rfl, rfl, ⟨[.int .i64 x.f1], [.string x.f2, .slice A3 x.f3.length c3, .slice A4 x.f4.length c4, .slice A5 x.f5.length c5], rfl, rfl, ⟨[.string x.f2], [.slice A3 x.f3.length c3, .slice A4 x.f4.length c4, .slice A5 x.f5.length c5], rfl, rfl, ⟨[.slice A3 x.f3.length c3], [.slice A4 x.f4.length c4, .slice A5 x.f5.length c5], rfl, ⟨A3, c3, rfl, l3, g3⟩, ⟨[.slice A4 x.f4.length c4], [.slice A5 x.f5.length c5], rfl, ⟨A4, c4, rfl, l4, r4⟩, ⟨A5, c5, rfl, l5, r5⟩⟩⟩⟩⟩⟩⟩
theorem k45_mkM (w : World) (base : Nat) (ok : Nat → Prop) (x : S45) {v3 : Value} (g3 : k91.R 91 w base ok v3 x.f3) {v4 : Value} (g4 : k45.R 45 w base ok v4 x.f4) {v5 : Value} (g5 : k73.R 73 w base ok v5 x.f5) : k45.M w base ok x [.int .i64 x.f0, .int .i64 x.f1, .string x.f2, v3, v4, v5] := by
  obtain ⟨n4, q4⟩ := Kd.fix_R_back mono45 g4
  obtain ⟨n5, q5⟩ := via73_R_back g5
  have r4 := Kd.upto_R_le mono45 sz45 (show n4 ≤ (max n4 n5) by omega) q4
  have r5 := via73_R_le (show n5 ≤ (max n4 n5) by omega) q5
  exact ⟨(max n4 n5) + 1, ⟨[.int .i64 x.f0], [.int .i64 x.f1, .string x.f2, v3, v4, v5], rfl, rfl, ⟨[.int .i64 x.f1], [.string x.f2, v3, v4, v5], rfl, rfl, ⟨[.string x.f2], [v3, v4, v5], rfl, rfl, ⟨[v3], [v4, v5], rfl, ⟨v3, rfl, g3⟩, ⟨[v4], [v5], rfl, ⟨v4, rfl, r4⟩, ⟨v5, rfl, r5⟩⟩⟩⟩⟩⟩⟩
def rd_T45 (xs : List S45) (i : Int) : S45 := xs.getD i.toNat z45
theorem at_T45 {w : World} {A : Option Addr} {n : Nat} {xs : List S45} (h : Kd.C k45 w A n xs) (i : Int) (h0 : 0 ≤ i) (h1 : i < n) : ∃ ad A3 c3 A4 c4 A5 c5, A = some ad ∧ w.cell? (ad.add (i.toNat * 6)) = some (.int .i64 (rd_T45 xs i).f0) ∧ w.cell? ⟨(ad.add (i.toNat * 6)).block, (ad.add (i.toNat * 6)).off + 1, none⟩ = some (.int .i64 (rd_T45 xs i).f1) ∧ w.cell? ⟨(ad.add (i.toNat * 6)).block, (ad.add (i.toNat * 6)).off + 2, none⟩ = some (.string (rd_T45 xs i).f2) ∧ w.cell? ⟨(ad.add (i.toNat * 6)).block, (ad.add (i.toNat * 6)).off + 3, none⟩ = some (.slice A3 (rd_T45 xs i).f3.length c3) ∧ w.cell? ⟨(ad.add (i.toNat * 6)).block, (ad.add (i.toNat * 6)).off + 4, none⟩ = some (.slice A4 (rd_T45 xs i).f4.length c4) ∧ w.cell? ⟨(ad.add (i.toNat * 6)).block, (ad.add (i.toNat * 6)).off + 5, none⟩ = some (.slice A5 (rd_T45 xs i).f5.length c5) ∧ (rd_T45 xs i).f3.length ≤ c3 ∧ k91.C w A3 (rd_T45 xs i).f3.length (rd_T45 xs i).f3 ∧ (rd_T45 xs i).f4.length ≤ c4 ∧ k45.C w A4 (rd_T45 xs i).f4.length (rd_T45 xs i).f4 ∧ (rd_T45 xs i).f5.length ≤ c5 ∧ k73.C w A5 (rd_T45 xs i).f5.length (rd_T45 xs i).f5 := by
  obtain ⟨ad, c, e, _, hK, hc0⟩ := Kd.C_get h z45 i h0 h1
  have hc : ∀ j u, c[j]? = some u → w.cell? (ad.add (i.toNat * 6 + j)) = some u := hc0
  obtain ⟨A3, c3, A4, c4, A5, c5, rfl, l3, g3, l4, g4, l5, g5⟩ := k45_open hK
  exact ⟨ad, A3, c3, A4, c4, A5, c5, e, hc 0 _ rfl, by rw [← add_field _ _ 1 (by omega)]; exact hc 1 _ rfl, by rw [← add_field _ _ 2 (by omega)]; exact hc 2 _ rfl, by rw [← add_field _ _ 3 (by omega)]; exact hc 3 _ rfl, by rw [← add_field _ _ 4 (by omega)]; exact hc 4 _ rfl, by rw [← add_field _ _ 5 (by omega)]; exact hc 5 _ rfl, l3, g3, l4, g4, l5, g5⟩

/-! #### struct type 73 -/
abbrev S73 := B73 S45
def z73 : S73 := ⟨([] : List S91), ([] : List S45)⟩
theorem k73_open {w : World} {x : S73} {cs : List Value} (h : k73.K w x cs) : ∃ A0 c0 A1 c1, cs = [.slice A0 x.f0.length c0, .slice A1 x.f1.length c1] ∧ x.f0.length ≤ c0 ∧ k91.C w A0 x.f0.length x.f0 ∧ x.f1.length ≤ c1 ∧ k45.C w A1 x.f1.length x.f1 := by
  obtain ⟨_, _, rfl, ⟨A0, c0, rfl, l0, g0⟩, ⟨A1, c1, rfl, l1, g1⟩⟩ := h
  exact ⟨A0, c0, A1, c1, rfl, l0, g0, l1, g1⟩
theorem k73_mkM (w : World) (base : Nat) (ok : Nat → Prop) (x : S73) {v0 : Value} (g0 : k91.R 91 w base ok v0 x.f0) {v1 : Value} (g1 : k45.R 45 w base ok v1 x.f1) : k73.M w base ok x [v0, v1] := ⟨[v0], [v1], rfl, ⟨v0, rfl, g0⟩, ⟨v1, rfl, g1⟩⟩
def rd_T73 (xs : List S73) (i : Int) : S73 := xs.getD i.toNat z73
theorem at_T73 {w : World} {A : Option Addr} {n : Nat} {xs : List S73} (h : Kd.C k73 w A n xs) (i : Int) (h0 : 0 ≤ i) (h1 : i < n) : ∃ ad A0 c0 A1 c1, A = some ad ∧ w.cell? (ad.add (i.toNat * 2)) = some (.slice A0 (rd_T73 xs i).f0.length c0) ∧ w.cell? ⟨(ad.add (i.toNat * 2)).block, (ad.add (i.toNat * 2)).off + 1, none⟩ = some (.slice A1 (rd_T73 xs i).f1.length c1) ∧ (rd_T73 xs i).f0.length ≤ c0 ∧ k91.C w A0 (rd_T73 xs i).f0.length (rd_T73 xs i).f0 ∧ (rd_T73 xs i).f1.length ≤ c1 ∧ k45.C w A1 (rd_T73 xs i).f1.length (rd_T73 xs i).f1 := by
  obtain ⟨ad, c, e, _, hK, hc0⟩ := Kd.C_get h z73 i h0 h1
  have hc : ∀ j u, c[j]? = some u → w.cell? (ad.add (i.toNat * 2 + j)) = some u := hc0
  obtain ⟨A0, c0, A1, c1, rfl, l0, g0, l1, g1⟩ := k73_open hK
  exact ⟨ad, A0, c0, A1, c1, e, hc 0 _ rfl, by rw [← add_field _ _ 1 (by omega)]; exact hc 1 _ rfl, l0, g0, l1, g1⟩

/-! #### struct type 54 -/
structure S54 where
  f0 : ByteArray
  f1 : S45
  f2 : S45
def z54 : S54 := ⟨(⟨#[]⟩ : ByteArray), z45, z45⟩
def k54 : Kd S54 := Kd.iso (Kd.pair Kd.string (Kd.pair k45 k45)) (fun x : S54 => (x.f0, x.f1, x.f2))
theorem k54_open {w : World} {x : S54} {cs : List Value} (h : k54.K w x cs) : ∃ A4 c4 A5 c5 A6 c6 A10 c10 A11 c11 A12 c12, cs = [.string x.f0, .int .i64 x.f1.f0, .int .i64 x.f1.f1, .string x.f1.f2, .slice A4 x.f1.f3.length c4, .slice A5 x.f1.f4.length c5, .slice A6 x.f1.f5.length c6, .int .i64 x.f2.f0, .int .i64 x.f2.f1, .string x.f2.f2, .slice A10 x.f2.f3.length c10, .slice A11 x.f2.f4.length c11, .slice A12 x.f2.f5.length c12] ∧ x.f1.f3.length ≤ c4 ∧ k91.C w A4 x.f1.f3.length x.f1.f3 ∧ x.f1.f4.length ≤ c5 ∧ k45.C w A5 x.f1.f4.length x.f1.f4 ∧ x.f1.f5.length ≤ c6 ∧ k73.C w A6 x.f1.f5.length x.f1.f5 ∧ x.f2.f3.length ≤ c10 ∧ k91.C w A10 x.f2.f3.length x.f2.f3 ∧ x.f2.f4.length ≤ c11 ∧ k45.C w A11 x.f2.f4.length x.f2.f4 ∧ x.f2.f5.length ≤ c12 ∧ k73.C w A12 x.f2.f5.length x.f2.f5 := by
  obtain ⟨_, _, rfl, rfl, ⟨_, _, rfl, s1, s7⟩⟩ := h
  obtain ⟨A4, c4, A5, c5, A6, c6, rfl, l4, g4, l5, g5, l6, g6⟩ := k45_open s1
  obtain ⟨A10, c10, A11, c11, A12, c12, rfl, l10, g10, l11, g11, l12, g12⟩ := k45_open s7
  exact ⟨A4, c4, A5, c5, A6, c6, A10, c10, A11, c11, A12, c12, rfl, l4, g4, l5, g5, l6, g6, l10, g10, l11, g11, l12, g12⟩
def rd_T54 (xs : List S54) (i : Int) : S54 := xs.getD i.toNat z54
theorem at_T54 {w : World} {A : Option Addr} {n : Nat} {xs : List S54} (h : Kd.C k54 w A n xs) (i : Int) (h0 : 0 ≤ i) (h1 : i < n) : ∃ ad A4 c4 A5 c5 A6 c6 A10 c10 A11 c11 A12 c12, A = some ad ∧ w.cell? (ad.add (i.toNat * 13)) = some (.string (rd_T54 xs i).f0) ∧ w.cell? ⟨(ad.add (i.toNat * 13)).block, (ad.add (i.toNat * 13)).off + 1, none⟩ = some (.int .i64 (rd_T54 xs i).f1.f0) ∧ w.cell? ⟨(ad.add (i.toNat * 13)).block, (ad.add (i.toNat * 13)).off + 2, none⟩ = some (.int .i64 (rd_T54 xs i).f1.f1) ∧ w.cell? ⟨(ad.add (i.toNat * 13)).block, (ad.add (i.toNat * 13)).off + 3, none⟩ = some (.string (rd_T54 xs i).f1.f2) ∧ w.cell? ⟨(ad.add (i.toNat * 13)).block, (ad.add (i.toNat * 13)).off + 4, none⟩ = some (.slice A4 (rd_T54 xs i).f1.f3.length c4) ∧ w.cell? ⟨(ad.add (i.toNat * 13)).block, (ad.add (i.toNat * 13)).off + 5, none⟩ = some (.slice A5 (rd_T54 xs i).f1.f4.length c5) ∧ w.cell? ⟨(ad.add (i.toNat * 13)).block, (ad.add (i.toNat * 13)).off + 6, none⟩ = some (.slice A6 (rd_T54 xs i).f1.f5.length c6) ∧ w.cell? ⟨(ad.add (i.toNat * 13)).block, (ad.add (i.toNat * 13)).off + 7, none⟩ = some (.int .i64 (rd_T54 xs i).f2.f0) ∧ w.cell? ⟨(ad.add (i.toNat * 13)).block, (ad.add (i.toNat * 13)).off + 8, none⟩ = some (.int .i64 (rd_T54 xs i).f2.f1) ∧ w.cell? ⟨(ad.add (i.toNat * 13)).block, (ad.add (i.toNat * 13)).off + 9, none⟩ = some (.string (rd_T54 xs i).f2.f2) ∧ w.cell? ⟨(ad.add (i.toNat * 13)).block, (ad.add (i.toNat * 13)).off + 10, none⟩ = some (.slice A10 (rd_T54 xs i).f2.f3.length c10) ∧ w.cell? ⟨(ad.add (i.toNat * 13)).block, (ad.add (i.toNat * 13)).off + 11, none⟩ = some (.slice A11 (rd_T54 xs i).f2.f4.length c11) ∧ w.cell? ⟨(ad.add (i.toNat * 13)).block, (ad.add (i.toNat * 13)).off + 12, none⟩ = some (.slice A12 (rd_T54 xs i).f2.f5.length c12) ∧ (rd_T54 xs i).f1.f3.length ≤ c4 ∧ k91.C w A4 (rd_T54 xs i).f1.f3.length (rd_T54 xs i).f1.f3 ∧ (rd_T54 xs i).f1.f4.length ≤ c5 ∧ k45.C w A5 (rd_T54 xs i).f1.f4.length (rd_T54 xs i).f1.f4 ∧ (rd_T54 xs i).f1.f5.length ≤ c6 ∧ k73.C w A6 (rd_T54 xs i).f1.f5.length (rd_T54 xs i).f1.f5 ∧ (rd_T54 xs i).f2.f3.length ≤ c10 ∧ k91.C w A10 (rd_T54 xs i).f2.f3.length (rd_T54 xs i).f2.f3 ∧ (rd_T54 xs i).f2.f4.length ≤ c11 ∧ k45.C w A11 (rd_T54 xs i).f2.f4.length (rd_T54 xs i).f2.f4 ∧ (rd_T54 xs i).f2.f5.length ≤ c12 ∧ k73.C w A12 (rd_T54 xs i).f2.f5.length (rd_T54 xs i).f2.f5 := by
  obtain ⟨ad, c, e, _, hK, hc0⟩ := Kd.C_get h z54 i h0 h1
  have hc : ∀ j u, c[j]? = some u → w.cell? (ad.add (i.toNat * 13 + j)) = some u := hc0
  obtain ⟨A4, c4, A5, c5, A6, c6, A10, c10, A11, c11, A12, c12, rfl, l4, g4, l5, g5, l6, g6, l10, g10, l11, g11, l12, g12⟩ := k54_open hK
  exact ⟨ad, A4, c4, A5, c5, A6, c6, A10, c10, A11, c11, A12, c12, e, hc 0 _ rfl, by rw [← add_field _ _ 1 (by omega)]; exact hc 1 _ rfl, by rw [← add_field _ _ 2 (by omega)]; exact hc 2 _ rfl, by rw [← add_field _ _ 3 (by omega)]; exact hc 3 _ rfl, by rw [← add_field _ _ 4 (by omega)]; exact hc 4 _ rfl, by rw [← add_field _ _ 5 (by omega)]; exact hc 5 _ rfl, by rw [← add_field _ _ 6 (by omega)]; exact hc 6 _ rfl, by rw [← add_field _ _ 7 (by omega)]; exact hc 7 _ rfl, by rw [← add_field _ _ 8 (by omega)]; exact hc 8 _ rfl, by rw [← add_field _ _ 9 (by omega)]; exact hc 9 _ rfl, by rw [← add_field _ _ 10 (by omega)]; exact hc 10 _ rfl, by rw [← add_field _ _ 11 (by omega)]; exact hc 11 _ rfl, by rw [← add_field _ _ 12 (by omega)]; exact hc 12 _ rfl, l4, g4, l5, g5, l6, g6, l10, g10, l11, g11, l12, g12⟩

end Go.Proofs.YtahdjajdaggmjaaDoor.XPo
