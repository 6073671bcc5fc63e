-- Written for this claim by a program of ours (wip/xp.py), out of the translation and of hand-written contracts.
import Derived.Test.YtfbcgjkagdbckaaDoorProg
import Derived.Below
import Derived.Deep.Draws
import Derived.Deep.AppendLies
import Derived.Maps.AppendAt
import Derived.OwnWalk
import Derived.Laws.BytesArg
import Derived.Laws.MakeOwn
import Derived.Laws.OwnMore
import Derived.Deep.OwnRows
import Derived.Tactics
import Derived.Lib.ConvBytes
import Derived.Laws.Slices
import Derived.WalkKit
import Derived.KernelRfl
import Derived.RowKit3
import Derived.Deep.LoopGhost
import Derived.Deep.QuietTactic
import Derived.BigQuiet
import Derived.WideLaws
import Derived.Deep.DeepCutAuto
import Derived.Deep.CutBlock
import Derived.Deep.RegionHeld3
import Derived.Laws.Rows
import Derived.Lib.AppendStr
import Derived.ArgAppend
import Derived.Laws.IdiomCopy
import Derived.OrdersHeld
import Derived.Laws.BitsLemmas
import Derived.RowKit
import Derived.Test.YtfbcgjkagdbckaaDoorWd
import Derived.Test.YtfbcgjkagdbckaaDoorLst
import Derived.Test.YtfbcgjkagdbckaaDoorFo
import Derived.Test.YtfbcgjkagdbckaaDoorFo2
import Derived.Test.YtfbcgjkagdbckaaDoorFpv
import Derived.Test.YtfbcgjkagdbckaaDoorLz
import Derived.Test.YtfbcgjkagdbckaaDoorWWords
import Derived.Test.YtfbcgjkagdbckaaDoorWLast
import Derived.Test.YtfbcgjkagdbckaaDoorWTab
import Derived.Test.YtfbcgjkagdbckaaDoorWFour
import Derived.Test.YtfbcgjkagdbckaaDoorWQPut
import Derived.Test.YtfbcgjkagdbckaaDoorWApart
import Derived.Test.YtfbcgjkagdbckaaDoorWArr
import Derived.Test.YtfbcgjkagdbckaaDoorWZeros
import Derived.Test.YtfbcgjkagdbckaaDoorWFoot
import Derived.Test.YtfbcgjkagdbckaaDoorWKept
import Derived.Test.YtfbcgjkagdbckaaDoorWShare
import Derived.Test.YtfbcgjkagdbckaaDoorWN
import Derived.Test.YtfbcgjkagdbckaaDoorWFootNe
import Derived.Test.YtfbcgjkagdbckaaDoorWAt
import Derived.Test.YtfbcgjkagdbckaaDoorWEqStruct
import Derived.Test.YtfbcgjkagdbckaaDoorWRepsOne
import Derived.Test.YtfbcgjkagdbckaaDoorWInv
import Derived.Test.YtfbcgjkagdbckaaDoorWInvWords
import Derived.Test.YtfbcgjkagdbckaaDoorWGuard
import Derived.Test.YtfbcgjkagdbckaaDoorWNEv
import Derived.Test.YtfbcgjkagdbckaaDoorWMore
namespace Go.Proofs.YtfbcgjkagdbckaaDoor.XFl
open Go.RowKit Go.Proofs.YtfbcgjkagdbckaaDoorW.PrintWords Go.Proofs.YtfbcgjkagdbckaaDoorW.PrintLast Go.Proofs.YtfbcgjkagdbckaaDoorW.PrintMore
attribute [local go_sem] max2_int min2_int max_two min_two max_three min_three max_four min_four   -- for this text's walks alone
set_option linter.unusedVariables false
set_option linter.unusedSimpArgs false



def errW : Option Int → Value
  | none => .nilIface
  | some c => .iface 0 (.int .i64 c)
theorem errW_none : errW none = .nilIface := rfl
theorem errW_some (c : Int) : errW (some c) = .iface 0 (.int .i64 c) := rfl

theorem info60 : (Tryd.prog.info? 60).map (fun i => (i.zero, i.size, i.bytes)) = some (some (.agg #[(.int .u32 0), (.int .u32 0)]), 2, 8) := by kernel_rfl
-- the values' own types
/-! #### struct type 60 -/
structure S60 where
  f0 : Int
  f1 : Int
def z60 : S60 := ⟨(0 : Int), (0 : Int)⟩
def k60 : Kd S60 := Kd.iso (Kd.pair (Kd.int .u32) (Kd.int .u32)) (fun x : S60 => (x.f0, x.f1))
theorem k60_open {w : World} {x : S60} {cs : List Value} (h : k60.K w x cs) : cs = [.int .u32 x.f0, .int .u32 x.f1] := by
  obtain ⟨_, _, rfl, rfl, rfl⟩ := h
  exact rfl
theorem k60_openM {w : World} {base : Nat} {ok : Nat → Prop} {x : S60} {cs : List Value} (h : k60.M w base ok x cs) : cs = [.int .u32 x.f0, .int .u32 x.f1] := by
  obtain ⟨_, _, rfl, rfl, rfl⟩ := h
  exact rfl
theorem k60_mk (w : World) (x : S60)  : k60.K w x [.int .u32 x.f0, .int .u32 x.f1] := ⟨[.int .u32 x.f0], [.int .u32 x.f1], rfl, rfl, rfl⟩
theorem k60_mkM (w : World) (base : Nat) (ok : Nat → Prop) (x : S60)  : k60.M w base ok x [.int .u32 x.f0, .int .u32 x.f1] := ⟨[.int .u32 x.f0], [.int .u32 x.f1], rfl, rfl, rfl⟩
def rd_T60 (xs : List S60) (i : Int) : S60 := xs.getD i.toNat z60
theorem at_T60 {w : World} {A : Option Addr} {n : Nat} {xs : List S60} (h : Kd.C k60 w A n xs) (i : Int) (h0 : 0 ≤ i) (h1 : i < n) : ∃ ad , A = some ad ∧ w.cell? (ad.add (i.toNat * 2)) = some (.int .u32 (rd_T60 xs i).f0) ∧ w.cell? ⟨(ad.add (i.toNat * 2)).block, (ad.add (i.toNat * 2)).off + 1, none⟩ = some (.int .u32 (rd_T60 xs i).f1) := by
  obtain ⟨ad, c, e, _, hK, hc0⟩ := Kd.C_get h z60 i h0 h1
  have hc : ∀ j u, c[j]? = some u → w.cell? (ad.add (i.toNat * 2 + j)) = some u := hc0
  obtain rfl := k60_open hK
  exact ⟨ad, e, hc 0 _ rfl, by rw [← add_field _ _ 1 (by omega)]; exact hc 1 _ rfl⟩

end Go.Proofs.YtfbcgjkagdbckaaDoor.XFl
