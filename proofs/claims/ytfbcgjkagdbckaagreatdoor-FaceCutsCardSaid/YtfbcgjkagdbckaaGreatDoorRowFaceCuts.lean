/-
The law's row and its card: the walk and the plain law, set into the form that the card asks for.
-/
import Derived.Test.YtfbcgjkagdbckaaGreatDoorCards
import Derived.Test.YtfbcgjkagdbckaaGreatDoorTie
import Derived.Test.YtfbcgjkagdbckaaGreatDoorLawsCu
import Derived.Test.YtfbcgjkagdbckaaGreatDoorOpenF
import Derived.Test.YtfbcgjkagdbckaaGreatDoorTabRow
import Derived.Test.YtfbcgjkagdbckaaGreatDoorXCux0
import Derived.Test.YtfbcgjkagdbckaaGreatDoorXCux1
import Derived.Test.YtfbcgjkagdbckaaGreatDoorXCux2
import Derived.Test.YtfbcgjkagdbckaaGreatDoorXCux3
import Derived.Test.YtfbcgjkagdbckaaGreatDoorXCux4
import Derived.Test.YtfbcgjkagdbckaaGreatDoorXCux5
import Derived.Test.YtfbcgjkagdbckaaGreatDoorXCux6
import Derived.Test.YtfbcgjkagdbckaaGreatDoorXCux7
import Derived.Test.YtfbcgjkagdbckaaGreatDoorXCux8
import Derived.Test.YtfbcgjkagdbckaaGreatDoorXCux9
import Derived.Test.YtfbcgjkagdbckaaGreatDoorXCux10
import Derived.Test.YtfbcgjkagdbckaaGreatDoorXCux11
import Derived.Test.YtfbcgjkagdbckaaGreatDoorXCux12
import Derived.Test.YtfbcgjkagdbckaaGreatDoorXCux13
import Derived.WalkKit
import Derived.ProofKit
import Derived.OpenShut
import Derived.ShutString
import Derived.ChangeOld
import Derived.Below
import Derived.SizedLaws
namespace Go.Proofs.YtfbcgjkagdbckaaGreatDoor.faceCuts
open Go.ChangeShapes Go.WideShapes Go.ChangeAt Go.RowKit
open Go.ChangeMaps (open_string shut_string)
open Go.Proofs.YtfbcgjkagdbckaaGreatDoor.XCu
set_option linter.unusedVariables false

/-- A start for the witness: the table's block holds what its initialiser lays. -/
noncomputable def laidWorld (os : Os) : World :=
  { World.holding Tryz.prog os ⟨#[], #[], []⟩ with heap := laidHeap (World.holding Tryz.prog os ⟨#[], #[], []⟩).heap }
theorem laid_met (os : Os) : laidMet Tryz.prog Rows.faceCutsRow.laid ((laidWorld os).forCall (fun _ _ => 0) ⟨#[], #[.slice none 0 0, .agg #[.int .u32 0, .int .u32 0], .int .i64 0, .slice none 0 0], []⟩).memory :=
  laidMet_of_run' 8 (by kernel_rfl) (by kernel_rfl)
theorem reads (os : Os) {H : Type} (enc : TypeId × Value → H) : ∃ places, DataW.whole enc Tryz.prog ((laidWorld os).forCall (fun _ _ => 0) ⟨#[], #[.slice none 0 0, .agg #[.int .u32 0, .int .u32 0], .int .i64 0, .slice none 0 0], []⟩).memory Tryz.f3.params.toList Rows.faceCutsSpec.vars false (#[.slice none 0 0, .agg #[.int .u32 0, .int .u32 0], .int .i64 0, .slice none 0 0] : Array Value).toList 8 = some ([.nil, .agg [.lit (.int .u32 0), .lit (.int .u32 0)], .lit (.int .i64 0), .nil], [], places) :=
  ⟨[], by kernel_rfl⟩

set_option maxRecDepth 100000 in
theorem contract (H : Type) (enc : TypeId × Value → H) (W : World) (base : Nat) (args : Array Value) (ds gs : List (DataW H)) (before : List MemPlace)
    (hval0 : ∀ (j : Nat) t v, Tryz.f3.params[j]? = some t → args[j]? = some v → Value.okWide Tryz.prog W .any base t v)
    (hW : DataW.Whole enc Tryz.prog Tryz.f3.params.toList Rows.faceCutsSpec.vars false W args.toList ds gs before) (hL : laidMetH Tryz.prog Rows.faceCutsRow.laid W)
    (hsz0 : (DataW.weightsEach Tryz.prog (Tryz.f3.params.toList ++ Rows.faceCutsSpec.plain.varTypes Tryz.prog) (ds ++ gs)).all (· ≤ reachBytes) = true) :
    Calls Tryz.prog 3 args W fun e W' => ∃ v, e = .returned v ∧ Rows.faceCutsSpec.post enc Tryz.prog Tryz.f3 false true false false W args v W' := by
  have hsz := hsz0
  have hval : ∀ (j : Nat) t v, Tryz.f3.params[j]? = some t → args[j]? = some v → Value.okWide Tryz.prog W .any base t v := hval0
  have hW' := hW
  obtain ⟨p, q, hA0, hV, rfl, hfz, hnd⟩ := hW
  have hA : DataW.TrodAll enc Tryz.prog W 0 (fun _ => true) true Tryz.f3.params.toList args.toList ds p := hA0
  rw [Tryz.params3] at hA hval hsz
  obtain ⟨v0, vs0, d0, ds0, p0, q0, hargs, rfl, rfl, h0, r0⟩ := trodAll_cons hA
  obtain ⟨v1, vs1, d1, ds1, p1, q1, rfl, rfl, rfl, h1, r1⟩ := trodAll_cons r0
  obtain ⟨v2, vs2, d2, ds2, p2, q2, rfl, rfl, rfl, h2, r2⟩ := trodAll_cons r1
  obtain ⟨v3, vs3, d3, ds3, p3, q3, rfl, rfl, rfl, h3, r3⟩ := trodAll_cons r2
  obtain ⟨rfl, rfl, rfl⟩ := trodAll_nil r3
  obtain rfl : args = #[v0, v1, v2, v3] := by cases args; simp_all
  obtain ⟨rfl, rfl⟩ := trodVars_none hV
  have k0 := h0
  have lt0 : ∀ x ∈ p0, x.block < W.heap.size := by obtain ⟨m, hm⟩ := k0; exact DataW.trod_lt m _ _ _ hm
  obtain ⟨A0, cap0, l0, rfl, hc0, hr0⟩ := openRow (hval 0 22 v0 rfl rfl) h0
  have k1 := h1
  have lt1 : ∀ x ∈ p1, x.block < W.heap.size := by obtain ⟨m, hm⟩ := k1; exact DataW.trod_lt m _ _ _ hm
  obtain ⟨c1, rfl⟩ := openClause (hval 1 25 v1 rfl rfl) h1
  obtain ⟨a2, rfl, rfl, rfl, w2⟩ := open_int Tryz.underlying3 (hval 2 3 v2 rfl rfl) h2
  have k3 := h3
  have lt3 : ∀ x ∈ p3, x.block < W.heap.size := by obtain ⟨m, hm⟩ := k3; exact DataW.trod_lt m _ _ _ hm
  obtain ⟨A3, cap3, l3, rfl, hc3, hr3⟩ := openRow (hval 3 22 v3 rfl rfl) h3
  clear hA0 hval0 hsz0 hsz
  obtain ⟨k, hk⟩ := Pure.FaceCuts l0 c1 a2 w2 l3
  refine (XCu.hypercubelaw05_FaceCuts.calls k A0 cap0 (l0.map ofC24) (un c1.1) (un c1.2) a2 A3 cap3 (l3.map ofC24) true W ⟨tab_of hL⟩ ⟨rfl⟩ hr0 hc0 hr3 hc3 hk).mono fun e W' ⟨he, bel⟩ => ?_
  subst he
  exact ⟨_, rfl, _, _, _, [], _, [], hW', trodAll_mk1 (shut_bool Tryz.underlying4 _), (trodAll_cons_mk (Below.trod laidOutAll (by kernel_rfl) (of_decide_eq_true (by kernel_rfl)) k0 bel lt0) (trodAll_cons_mk (Below.trod laidOutAll (by kernel_rfl) (of_decide_eq_true (by kernel_rfl)) k1 bel lt1) (trodAll_cons_mk (shut_int Tryz.underlying3 w2) (trodAll_cons_mk (Below.trod laidOutAll (by kernel_rfl) (of_decide_eq_true (by kernel_rfl)) k3 bel lt3) trodAll_mk0)))), rfl, bel.frame _, fun h => by cases h⟩

set_option maxRecDepth 100000 in
theorem lifted (os : Os) (started : os.Started) (H : Type) (enc : TypeId × Value → H) (F : Stop.Interp) :
    ReturnsInHanded {} Tryz.checked os 3 .any ((OpenSpec.ofChange Rows.faceCutsSpec).preRow enc Tryz.prog Tryz.f3 Rows.faceCutsRow.domain false Rows.faceCutsRow.laid) (((OpenSpec.ofChange Rows.faceCutsSpec).at F).post enc Tryz.prog Tryz.f3 false true false false) := by
  obtain ⟨places, hx⟩ := reads os enc
  refine returnsInHanded_of_row (C := Tryz.checked) (s := OpenSpec.ofChange Rows.faceCutsSpec) own started (by kernel_rfl) Tryz.func3
    (witness_row_at (enc := enc) (C := Tryz.checked) false (laidWorld os) #[.slice none 0 0, .agg #[.int .u32 0, .int .u32 0], .int .i64 0, .slice none 0 0] rfl (by kernel_rfl) (by kernel_rfl) (by kernel_rfl)
      (OpenSpec.preRow_of_cond 8 hx (by kernel_rfl) (fun k hk => by cases hk) (by kernel_rfl) (laid_met os))) ?_
  intro W base args ds gs before hval hW _ _ hsz hL _ _
  exact contract H enc W base args ds gs before hval hW hL hsz
theorem said : Rows.FaceCutsSaid :=
  OpenClaim.holds_of_cond 3 Tryz.f3 rfl rfl rfl rfl rfl rfl rfl ⟨rfl, rfl, rfl, rfl, rfl⟩ rfl rfl rfl rfl rfl (by kernel_rfl) Tryz.func3 (by kernel_rfl)
    (of_decide_eq_true (by kernel_rfl)) (by unfold Func.isWrapper; first | (rw [if_pos (by decide +kernel)]; kernel_rfl) | (rw [if_neg (by decide +kernel)]; exact ⟨rfl, rfl⟩))
    (fun os started H enc _ F => by rw [OpenClaim.pre_eq_preRow]; exact lifted os started H enc F)
theorem plain (f : FuncId) (fn : Func) (hf : Tryz.pinned.checked.prog.funcNamed "hypercube/hypercubelaw05.FaceCuts" = some f) (hfn : Tryz.pinned.checked.prog.funcs[f]? = some fn) :
    false = Tryz.pinned.checked.prog.looks [] ∧ ∀ (j : Nat) t, fn.params[j]? = some t → Tryz.pinned.checked.prog.wantsStandIn t = false := by
  obtain rfl : f = 3 := Option.some.inj ((show Tryz.prog.funcNamed "hypercube/hypercubelaw05.FaceCuts" = some 3 by kernel_rfl).symm.trans hf) |>.symm
  obtain rfl : fn = Tryz.f3 := (Option.some.inj (Tryz.func3.symm.trans hfn)).symm
  have hall : ∀ t ∈ Tryz.f3.params.toList, Tryz.prog.wantsStandIn t = false := by
    rw [Tryz.params3]
    decide +kernel
  exact ⟨by kernel_rfl, fun j t ht => hall t (by simpa using Array.mem_of_getElem? ht)⟩
end Go.Proofs.YtfbcgjkagdbckaaGreatDoor.faceCuts
namespace Go.Proofs.YtfbcgjkagdbckaaGreatDoor
/-- The card. -/
theorem faceCuts_card : Rows.FaceCutsCardSaid :=
  Claim7.holds_tied_plain_at .later [] _ _ _ _ faceCuts.said (fun _ h => by cases h) (by kernel_rfl) (fun _ h => by cases h) faceCuts_row_tie rfl ⟨rfl, rfl⟩ (by kernel_rfl) rfl faceCuts.plain (by kernel_rfl)
end Go.Proofs.YtfbcgjkagdbckaaGreatDoor
