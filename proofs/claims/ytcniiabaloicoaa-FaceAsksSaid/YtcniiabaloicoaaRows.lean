/-
  No cell of these rows narrows 'for every input' (looked for: loops, veiled, ifaces, maps, wideKeys, modest, calm, conditions, laid).
  DERIVED. THE GIVEN ROWS OF THIS SEAT. 4 by the template 'for every input the law returns true; each argument reads behind the call as it read before'; 0 by the template 'total and deterministic' (their statements: YtcniiabaloicoaaTotals.lean).
  GIVEN WITH THE SEED: the statements are not yours to turn. If you find one false, say at which input.
  Laid BY PROGRAM, IN A SANDBOX (cutbox-rows.mjs): the forced cells as the released guide's own fill.sh prints them over the translation 5523dc8f5f04b043… (all of the seat's roots in one cut). By AI agents, Wed Nov 11 2026. No macro, syntax, notation, axiom, sorry.
-/
import Derived.Test.YtcniiabaloicoaaChecked
import GoSem.Claim
import GoSem.ClaimJoined
import GoSem.ClaimMapViews
import Derived.JoinedTies
import Derived.KernelRfl
namespace Go.Proofs.Ytcniiabaloicoaa
/- THE CELL 'sum', in the pinned program and in every row, IS THE sha256 OF THE DUMP (.gsa) THAT YtcniiabaloicoaaProg.lean LOADS. Nothing in Lean hashes anything: it is a label: what it is worth is what the hold of that sum in a sandbox is worth. -/
noncomputable def Try.pinned : Pinned := { name := "ytcniiabaloicoaa", sum := "5523dc8f5f04b043b077f517d6654744bf0f9c39d0393992cb31acb00f28a8f5", checked := Try.checked }
namespace Rows
def none {H : Type} : Left H := { results := [], args := [] }

/-- 'hypercubelaw02.ClauseLeasts': WHATEVER THE INPUT: true; the input reads as it did. -/
def clauseLeastsSpec : ChangeSpec := { name := "clauseLeasts", fn := fun _ => fun
  | [d] => { results := [.lit (.bool true)], args := [d] }
  | _ => none }
def clauseLeastsRow : OpenClaim := { program := "ytcniiabaloicoaa", sum := "5523dc8f5f04b043b077f517d6654744bf0f9c39d0393992cb31acb00f28a8f5", func := "hypercube/hypercubelaw02.ClauseLeasts", spec := "clauseLeasts", unfollowed := true, recurses := true, plainKeys := false, apart := false }
def ClauseLeastsSaid : Prop := clauseLeastsRow.holds Try.pinned (OpenSpec.ofChange clauseLeastsSpec)

/-- ITS FALSE NEIGHBOUR: 'it returns false'. Refute it at one input. -/
def clauseLeastsWrong : ChangeSpec := { name := "clauseLeasts", fn := fun _ => fun
  | [d] => { results := [.lit (.bool false)], args := [d] }
  | _ => none }
def ClauseLeastsWrongFalsely : Prop := clauseLeastsRow.holds Try.pinned (OpenSpec.ofChange clauseLeastsWrong)

/-- 'hypercubelaw05.FaceAdjoint': WHATEVER THE INPUT: true; the input reads as it did. -/
def faceAdjointSpec : ChangeSpec := { name := "faceAdjoint", fn := fun _ => fun
  | [d1, d2, d3] => { results := [.lit (.bool true)], args := [d1, d2, d3] }
  | _ => none }
def faceAdjointRow : OpenClaim := { program := "ytcniiabaloicoaa", sum := "5523dc8f5f04b043b077f517d6654744bf0f9c39d0393992cb31acb00f28a8f5", func := "hypercube/hypercubelaw05.FaceAdjoint", spec := "faceAdjoint", unfollowed := true, recurses := true, plainKeys := false, apart := false }
def FaceAdjointSaid : Prop := faceAdjointRow.holds Try.pinned (OpenSpec.ofChange faceAdjointSpec)

/-- ITS FALSE NEIGHBOUR: 'it returns false'. Refute it at one input. -/
def faceAdjointWrong : ChangeSpec := { name := "faceAdjoint", fn := fun _ => fun
  | [d1, d2, d3] => { results := [.lit (.bool false)], args := [d1, d2, d3] }
  | _ => none }
def FaceAdjointWrongFalsely : Prop := faceAdjointRow.holds Try.pinned (OpenSpec.ofChange faceAdjointWrong)

/-- 'hypercubelaw05.FaceAsks': WHATEVER THE INPUT: true; the input reads as it did. -/
def faceAsksSpec : ChangeSpec := { name := "faceAsks", fn := fun _ => fun
  | [d1, d2, d3] => { results := [.lit (.bool true)], args := [d1, d2, d3] }
  | _ => none }
def faceAsksRow : OpenClaim := { program := "ytcniiabaloicoaa", sum := "5523dc8f5f04b043b077f517d6654744bf0f9c39d0393992cb31acb00f28a8f5", func := "hypercube/hypercubelaw05.FaceAsks", spec := "faceAsks", unfollowed := true, recurses := true, plainKeys := false, apart := false }
def FaceAsksSaid : Prop := faceAsksRow.holds Try.pinned (OpenSpec.ofChange faceAsksSpec)

/-- ITS FALSE NEIGHBOUR: 'it returns false'. Refute it at one input. -/
def faceAsksWrong : ChangeSpec := { name := "faceAsks", fn := fun _ => fun
  | [d1, d2, d3] => { results := [.lit (.bool false)], args := [d1, d2, d3] }
  | _ => none }
def FaceAsksWrongFalsely : Prop := faceAsksRow.holds Try.pinned (OpenSpec.ofChange faceAsksWrong)

/-- 'hypercubelaw05.FaceOrder': WHATEVER THE INPUT: true; the input reads as it did. -/
def faceOrderSpec : ChangeSpec := { name := "faceOrder", fn := fun _ => fun
  | [d1, d2, d3] => { results := [.lit (.bool true)], args := [d1, d2, d3] }
  | _ => none }
def faceOrderRow : OpenClaim := { program := "ytcniiabaloicoaa", sum := "5523dc8f5f04b043b077f517d6654744bf0f9c39d0393992cb31acb00f28a8f5", func := "hypercube/hypercubelaw05.FaceOrder", spec := "faceOrder", unfollowed := true, recurses := true, plainKeys := false, apart := false }
def FaceOrderSaid : Prop := faceOrderRow.holds Try.pinned (OpenSpec.ofChange faceOrderSpec)

/-- ITS FALSE NEIGHBOUR: 'it returns false'. Refute it at one input. -/
def faceOrderWrong : ChangeSpec := { name := "faceOrder", fn := fun _ => fun
  | [d1, d2, d3] => { results := [.lit (.bool false)], args := [d1, d2, d3] }
  | _ => none }
def FaceOrderWrongFalsely : Prop := faceOrderRow.holds Try.pinned (OpenSpec.ofChange faceOrderWrong)

/- THE SECOND FORM. 'bulk': how many values and letters a reading holds, each counted each time it is reached (what is shared counts as often as it is met; a slice's spare places count too). A statement '..UptoSaid' is the law's where the arguments, and the package variables that the reading takes, are together of bulk at most 1048576: NARROWER than '..Said'. Prove '..Said' where nothing that the law and all that it calls make is longer than what came in: it says more and counts as full. Else prove '..UptoSaid'. A law counts once. -/
mutual
def uptoBulk {H : Type} : DataW H → Nat
  | .lit (.string bytes) => bytes.length + 1
  | .lit _ => 1
  | .nil => 1
  | .ptr d => uptoBulk d + 1
  | .slice elems spare => uptoBulkAll elems + uptoBulkAll spare + 1
  | .agg parts => uptoBulkAll parts + 1
  | .iface _ d => uptoBulk d + 1
  | .map entries => uptoBulkEntries entries + 1
  | .held _ => 1
def uptoBulkAll {H : Type} : List (DataW H) → Nat
  | [] => 0
  | d :: r => uptoBulk d + uptoBulkAll r
def uptoBulkEntries {H : Type} : List (Lit × DataW H) → Nat
  | [] => 0
  | x :: r => uptoBulkEntry x + uptoBulkEntries r
def uptoBulkEntry {H : Type} : Lit × DataW H → Nat
  | (.string bytes, d) => bytes.length + uptoBulk d + 1
  | (_, d) => uptoBulk d + 1
 end
def uptoSmall : (H : Type) → List (DataW H) → Bool := fun _ ds => decide (uptoBulkAll ds ≤ 1048576)
def OpenSpec.upto (s : _root_.Go.ChangeSpec) : _root_.Go.OpenSpec := { _root_.Go.OpenSpec.ofChange s with cond := some uptoSmall }

/-- 'hypercubelaw02.ClauseLeasts', WHERE WHAT IT READS IS OF BULK AT MOST 1048576: true; the input reads as it did. -/
def clauseLeastsUptoRow : OpenClaim := { program := "ytcniiabaloicoaa", sum := "5523dc8f5f04b043b077f517d6654744bf0f9c39d0393992cb31acb00f28a8f5", func := "hypercube/hypercubelaw02.ClauseLeasts", spec := "clauseLeasts", unfollowed := true, recurses := true, plainKeys := false, apart := false, narrowed := true }
def ClauseLeastsUptoSaid : Prop := clauseLeastsUptoRow.holds Try.pinned (OpenSpec.upto clauseLeastsSpec)

/-- 'hypercubelaw05.FaceAdjoint', WHERE WHAT IT READS IS OF BULK AT MOST 1048576: true; the input reads as it did. -/
def faceAdjointUptoRow : OpenClaim := { program := "ytcniiabaloicoaa", sum := "5523dc8f5f04b043b077f517d6654744bf0f9c39d0393992cb31acb00f28a8f5", func := "hypercube/hypercubelaw05.FaceAdjoint", spec := "faceAdjoint", unfollowed := true, recurses := true, plainKeys := false, apart := false, narrowed := true }
def FaceAdjointUptoSaid : Prop := faceAdjointUptoRow.holds Try.pinned (OpenSpec.upto faceAdjointSpec)

/-- 'hypercubelaw05.FaceAsks', WHERE WHAT IT READS IS OF BULK AT MOST 1048576: true; the input reads as it did. -/
def faceAsksUptoRow : OpenClaim := { program := "ytcniiabaloicoaa", sum := "5523dc8f5f04b043b077f517d6654744bf0f9c39d0393992cb31acb00f28a8f5", func := "hypercube/hypercubelaw05.FaceAsks", spec := "faceAsks", unfollowed := true, recurses := true, plainKeys := false, apart := false, narrowed := true }
def FaceAsksUptoSaid : Prop := faceAsksUptoRow.holds Try.pinned (OpenSpec.upto faceAsksSpec)

/-- 'hypercubelaw05.FaceOrder', WHERE WHAT IT READS IS OF BULK AT MOST 1048576: true; the input reads as it did. -/
def faceOrderUptoRow : OpenClaim := { program := "ytcniiabaloicoaa", sum := "5523dc8f5f04b043b077f517d6654744bf0f9c39d0393992cb31acb00f28a8f5", func := "hypercube/hypercubelaw05.FaceOrder", spec := "faceOrder", unfollowed := true, recurses := true, plainKeys := false, apart := false, narrowed := true }
def FaceOrderUptoSaid : Prop := faceOrderUptoRow.holds Try.pinned (OpenSpec.upto faceOrderSpec)

end Rows
end Go.Proofs.Ytcniiabaloicoaa
