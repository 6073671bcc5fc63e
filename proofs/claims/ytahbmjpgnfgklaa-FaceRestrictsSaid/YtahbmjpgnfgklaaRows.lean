/-
  No cell of these rows narrows 'for every input' (looked for: loops, veiled, ifaces, maps, wideKeys, modest, calm, conditions, laid).
  DERIVED. THE GIVEN ROWS OF THIS SEAT. 10 by the template 'for every input the law returns true; each argument reads behind the call as it read before'; 0 by the template 'total and deterministic' (their statements: YtahbmjpgnfgklaaTotals.lean).
  GIVEN WITH THE SEED: the statements are not yours to turn. If you find one false, say at which input.
  Laid BY PROGRAM, IN A SANDBOX (cutbox-rows.mjs): the forced cells as the released guide's own fill.sh prints them over the translation d4e927d35a4d645f… (all of the seat's roots in one cut). By AI agents, Wed Nov 11 2026. No macro, syntax, notation, axiom, sorry.
-/
import Derived.Test.YtahbmjpgnfgklaaChecked
import GoSem.Claim
import GoSem.ClaimJoined
import GoSem.ClaimMapViews
import Derived.JoinedTies
import Derived.KernelRfl
namespace Go.Proofs.Ytahbmjpgnfgklaa
/- THE CELL 'sum', in the pinned program and in every row, IS THE sha256 OF THE DUMP (.gsa) THAT YtahbmjpgnfgklaaProg.lean LOADS. Nothing in Lean hashes anything: it is a label: what it is worth is what the hold of that sum in a sandbox is worth. -/
noncomputable def Try.pinned : Pinned := { name := "ytahbmjpgnfgklaa", sum := "d4e927d35a4d645fb0b9059eae64f136dbe1624cebd34215b076be190e488440", checked := Try.checked }
namespace Rows
def none {H : Type} : Left H := { results := [], args := [] }

/-- 'hypercubelaw02.ClauseAsks': WHATEVER THE INPUT: true; the input reads as it did. -/
def clauseAsksSpec : ChangeSpec := { name := "clauseAsks", fn := fun _ => fun
  | [d1, d2] => { results := [.lit (.bool true)], args := [d1, d2] }
  | _ => none }
def clauseAsksRow : OpenClaim := { program := "ytahbmjpgnfgklaa", sum := "d4e927d35a4d645fb0b9059eae64f136dbe1624cebd34215b076be190e488440", func := "hypercube/hypercubelaw02.ClauseAsks", spec := "clauseAsks", unfollowed := true, recurses := true, plainKeys := false, apart := false }
def ClauseAsksSaid : Prop := clauseAsksRow.holds Try.pinned (OpenSpec.ofChange clauseAsksSpec)

/-- ITS FALSE NEIGHBOUR: 'it returns false'. Refute it at one input. -/
def clauseAsksWrong : ChangeSpec := { name := "clauseAsks", fn := fun _ => fun
  | [d1, d2] => { results := [.lit (.bool false)], args := [d1, d2] }
  | _ => none }
def ClauseAsksWrongFalsely : Prop := clauseAsksRow.holds Try.pinned (OpenSpec.ofChange clauseAsksWrong)

/-- 'hypercubelaw02.ClauseLeasts': WHATEVER THE INPUT: true; the input reads as it did. -/
def clauseLeastsSpec : ChangeSpec := { name := "clauseLeasts", fn := fun _ => fun
  | [d] => { results := [.lit (.bool true)], args := [d] }
  | _ => none }
def clauseLeastsRow : OpenClaim := { program := "ytahbmjpgnfgklaa", sum := "d4e927d35a4d645fb0b9059eae64f136dbe1624cebd34215b076be190e488440", func := "hypercube/hypercubelaw02.ClauseLeasts", spec := "clauseLeasts", unfollowed := true, recurses := true, plainKeys := false, apart := false }
def ClauseLeastsSaid : Prop := clauseLeastsRow.holds Try.pinned (OpenSpec.ofChange clauseLeastsSpec)

/-- ITS FALSE NEIGHBOUR: 'it returns false'. Refute it at one input. -/
def clauseLeastsWrong : ChangeSpec := { name := "clauseLeasts", fn := fun _ => fun
  | [d] => { results := [.lit (.bool false)], args := [d] }
  | _ => none }
def ClauseLeastsWrongFalsely : Prop := clauseLeastsRow.holds Try.pinned (OpenSpec.ofChange clauseLeastsWrong)

/-- 'hypercubelaw02.ClauseCovers': WHATEVER THE INPUT: true; the input reads as it did. -/
def clauseCoversSpec : ChangeSpec := { name := "clauseCovers", fn := fun _ => fun
  | [d] => { results := [.lit (.bool true)], args := [d] }
  | _ => none }
def clauseCoversRow : OpenClaim := { program := "ytahbmjpgnfgklaa", sum := "d4e927d35a4d645fb0b9059eae64f136dbe1624cebd34215b076be190e488440", func := "hypercube/hypercubelaw02.ClauseCovers", spec := "clauseCovers", unfollowed := true, recurses := true, plainKeys := false, apart := false }
def ClauseCoversSaid : Prop := clauseCoversRow.holds Try.pinned (OpenSpec.ofChange clauseCoversSpec)

/-- ITS FALSE NEIGHBOUR: 'it returns false'. Refute it at one input. -/
def clauseCoversWrong : ChangeSpec := { name := "clauseCovers", fn := fun _ => fun
  | [d] => { results := [.lit (.bool false)], args := [d] }
  | _ => none }
def ClauseCoversWrongFalsely : Prop := clauseCoversRow.holds Try.pinned (OpenSpec.ofChange clauseCoversWrong)

/-- 'hypercubelaw02.ClauseTurns': WHATEVER THE INPUT: true; the input reads as it did. -/
def clauseTurnsSpec : ChangeSpec := { name := "clauseTurns", fn := fun _ => fun
  | [d1, d2, d3] => { results := [.lit (.bool true)], args := [d1, d2, d3] }
  | _ => none }
def clauseTurnsRow : OpenClaim := { program := "ytahbmjpgnfgklaa", sum := "d4e927d35a4d645fb0b9059eae64f136dbe1624cebd34215b076be190e488440", func := "hypercube/hypercubelaw02.ClauseTurns", spec := "clauseTurns", unfollowed := true, recurses := true, plainKeys := false, apart := false }
def ClauseTurnsSaid : Prop := clauseTurnsRow.holds Try.pinned (OpenSpec.ofChange clauseTurnsSpec)

/-- ITS FALSE NEIGHBOUR: 'it returns false'. Refute it at one input. -/
def clauseTurnsWrong : ChangeSpec := { name := "clauseTurns", fn := fun _ => fun
  | [d1, d2, d3] => { results := [.lit (.bool false)], args := [d1, d2, d3] }
  | _ => none }
def ClauseTurnsWrongFalsely : Prop := clauseTurnsRow.holds Try.pinned (OpenSpec.ofChange clauseTurnsWrong)

/-- 'hypercubelaw02.ClauseMeets': WHATEVER THE INPUT: true; the input reads as it did. -/
def clauseMeetsSpec : ChangeSpec := { name := "clauseMeets", fn := fun _ => fun
  | [d1, d2, d3] => { results := [.lit (.bool true)], args := [d1, d2, d3] }
  | _ => none }
def clauseMeetsRow : OpenClaim := { program := "ytahbmjpgnfgklaa", sum := "d4e927d35a4d645fb0b9059eae64f136dbe1624cebd34215b076be190e488440", func := "hypercube/hypercubelaw02.ClauseMeets", spec := "clauseMeets", unfollowed := true, recurses := true, plainKeys := false, apart := false }
def ClauseMeetsSaid : Prop := clauseMeetsRow.holds Try.pinned (OpenSpec.ofChange clauseMeetsSpec)

/-- ITS FALSE NEIGHBOUR: 'it returns false'. Refute it at one input. -/
def clauseMeetsWrong : ChangeSpec := { name := "clauseMeets", fn := fun _ => fun
  | [d1, d2, d3] => { results := [.lit (.bool false)], args := [d1, d2, d3] }
  | _ => none }
def ClauseMeetsWrongFalsely : Prop := clauseMeetsRow.holds Try.pinned (OpenSpec.ofChange clauseMeetsWrong)

/-- 'hypercubelaw02.ClauseLifts': WHATEVER THE INPUT: true; the input reads as it did. -/
def clauseLiftsSpec : ChangeSpec := { name := "clauseLifts", fn := fun _ => fun
  | [d1, d2, d3] => { results := [.lit (.bool true)], args := [d1, d2, d3] }
  | _ => none }
def clauseLiftsRow : OpenClaim := { program := "ytahbmjpgnfgklaa", sum := "d4e927d35a4d645fb0b9059eae64f136dbe1624cebd34215b076be190e488440", func := "hypercube/hypercubelaw02.ClauseLifts", spec := "clauseLifts", unfollowed := true, recurses := true, plainKeys := false, apart := false }
def ClauseLiftsSaid : Prop := clauseLiftsRow.holds Try.pinned (OpenSpec.ofChange clauseLiftsSpec)

/-- ITS FALSE NEIGHBOUR: 'it returns false'. Refute it at one input. -/
def clauseLiftsWrong : ChangeSpec := { name := "clauseLifts", fn := fun _ => fun
  | [d1, d2, d3] => { results := [.lit (.bool false)], args := [d1, d2, d3] }
  | _ => none }
def ClauseLiftsWrongFalsely : Prop := clauseLiftsRow.holds Try.pinned (OpenSpec.ofChange clauseLiftsWrong)

/-- 'hypercubelaw05.FaceRestricts': WHATEVER THE INPUT: true; the input reads as it did. -/
def faceRestrictsSpec : ChangeSpec := { name := "faceRestricts", fn := fun _ => fun
  | [d1, d2, d3] => { results := [.lit (.bool true)], args := [d1, d2, d3] }
  | _ => none }
def faceRestrictsRow : OpenClaim := { program := "ytahbmjpgnfgklaa", sum := "d4e927d35a4d645fb0b9059eae64f136dbe1624cebd34215b076be190e488440", func := "hypercube/hypercubelaw05.FaceRestricts", spec := "faceRestricts", unfollowed := true, recurses := true, plainKeys := false, apart := false }
def FaceRestrictsSaid : Prop := faceRestrictsRow.holds Try.pinned (OpenSpec.ofChange faceRestrictsSpec)

/-- ITS FALSE NEIGHBOUR: 'it returns false'. Refute it at one input. -/
def faceRestrictsWrong : ChangeSpec := { name := "faceRestricts", fn := fun _ => fun
  | [d1, d2, d3] => { results := [.lit (.bool false)], args := [d1, d2, d3] }
  | _ => none }
def FaceRestrictsWrongFalsely : Prop := faceRestrictsRow.holds Try.pinned (OpenSpec.ofChange faceRestrictsWrong)

/-- 'hypercubelaw05.FaceAdjoint': WHATEVER THE INPUT: true; the input reads as it did. -/
def faceAdjointSpec : ChangeSpec := { name := "faceAdjoint", fn := fun _ => fun
  | [d1, d2, d3] => { results := [.lit (.bool true)], args := [d1, d2, d3] }
  | _ => none }
def faceAdjointRow : OpenClaim := { program := "ytahbmjpgnfgklaa", sum := "d4e927d35a4d645fb0b9059eae64f136dbe1624cebd34215b076be190e488440", func := "hypercube/hypercubelaw05.FaceAdjoint", spec := "faceAdjoint", unfollowed := true, recurses := true, plainKeys := false, apart := false }
def FaceAdjointSaid : Prop := faceAdjointRow.holds Try.pinned (OpenSpec.ofChange faceAdjointSpec)

/-- ITS FALSE NEIGHBOUR: 'it returns false'. Refute it at one input. -/
def faceAdjointWrong : ChangeSpec := { name := "faceAdjoint", fn := fun _ => fun
  | [d1, d2, d3] => { results := [.lit (.bool false)], args := [d1, d2, d3] }
  | _ => none }
def FaceAdjointWrongFalsely : Prop := faceAdjointRow.holds Try.pinned (OpenSpec.ofChange faceAdjointWrong)

/-- 'hypercubelaw05.FaceAsks': WHATEVER THE INPUT: true; the input reads as it did. -/
def faceAsksSpec : ChangeSpec := { name := "faceAsks", fn := fun _ => fun
  | [d1, d2, d3] => { results := [.lit (.bool true)], args := [d1, d2, d3] }
  | _ => none }
def faceAsksRow : OpenClaim := { program := "ytahbmjpgnfgklaa", sum := "d4e927d35a4d645fb0b9059eae64f136dbe1624cebd34215b076be190e488440", func := "hypercube/hypercubelaw05.FaceAsks", spec := "faceAsks", unfollowed := true, recurses := true, plainKeys := false, apart := false }
def FaceAsksSaid : Prop := faceAsksRow.holds Try.pinned (OpenSpec.ofChange faceAsksSpec)

/-- ITS FALSE NEIGHBOUR: 'it returns false'. Refute it at one input. -/
def faceAsksWrong : ChangeSpec := { name := "faceAsks", fn := fun _ => fun
  | [d1, d2, d3] => { results := [.lit (.bool false)], args := [d1, d2, d3] }
  | _ => none }
def FaceAsksWrongFalsely : Prop := faceAsksRow.holds Try.pinned (OpenSpec.ofChange faceAsksWrong)

/-- 'hypercubelaw05.FaceOrder': WHATEVER THE INPUT: true; the input reads as it did. -/
def faceOrderSpec : ChangeSpec := { name := "faceOrder", fn := fun _ => fun
  | [d1, d2, d3] => { results := [.lit (.bool true)], args := [d1, d2, d3] }
  | _ => none }
def faceOrderRow : OpenClaim := { program := "ytahbmjpgnfgklaa", sum := "d4e927d35a4d645fb0b9059eae64f136dbe1624cebd34215b076be190e488440", func := "hypercube/hypercubelaw05.FaceOrder", spec := "faceOrder", unfollowed := true, recurses := true, plainKeys := false, apart := false }
def FaceOrderSaid : Prop := faceOrderRow.holds Try.pinned (OpenSpec.ofChange faceOrderSpec)

/-- ITS FALSE NEIGHBOUR: 'it returns false'. Refute it at one input. -/
def faceOrderWrong : ChangeSpec := { name := "faceOrder", fn := fun _ => fun
  | [d1, d2, d3] => { results := [.lit (.bool false)], args := [d1, d2, d3] }
  | _ => none }
def FaceOrderWrongFalsely : Prop := faceOrderRow.holds Try.pinned (OpenSpec.ofChange faceOrderWrong)

/- THE SECOND FORM. 'bulk': how many values and letters a reading holds, each counted each time it is reached (what is shared counts as often as it is met; a slice's spare places count too). A statement '..UptoSaid' is the law's where the arguments, and the package variables that the reading takes, are together of bulk at most 1048576: NARROWER than '..Said'. Prove '..Said' where nothing that the law and all that it calls make is longer than what came in: it says more and counts as full. Else prove '..UptoSaid'. A law counts once. -/
mutual
def uptoBulk {H : Type} : DataW H → Nat
  | .lit (.string bytes) => bytes.length + 1
  | .lit _ => 1
  | .nil => 1
  | .ptr d => uptoBulk d + 1
  | .slice elems spare => uptoBulkAll elems + uptoBulkAll spare + 1
  | .agg parts => uptoBulkAll parts + 1
  | .iface _ d => uptoBulk d + 1
  | .map entries => uptoBulkEntries entries + 1
  | .held _ => 1
def uptoBulkAll {H : Type} : List (DataW H) → Nat
  | [] => 0
  | d :: r => uptoBulk d + uptoBulkAll r
def uptoBulkEntries {H : Type} : List (Lit × DataW H) → Nat
  | [] => 0
  | x :: r => uptoBulkEntry x + uptoBulkEntries r
def uptoBulkEntry {H : Type} : Lit × DataW H → Nat
  | (.string bytes, d) => bytes.length + uptoBulk d + 1
  | (_, d) => uptoBulk d + 1
 end
def uptoSmall : (H : Type) → List (DataW H) → Bool := fun _ ds => decide (uptoBulkAll ds ≤ 1048576)
def OpenSpec.upto (s : _root_.Go.ChangeSpec) : _root_.Go.OpenSpec := { _root_.Go.OpenSpec.ofChange s with cond := some uptoSmall }

/-- 'hypercubelaw02.ClauseAsks', WHERE WHAT IT READS IS OF BULK AT MOST 1048576: true; the input reads as it did. -/
def clauseAsksUptoRow : OpenClaim := { program := "ytahbmjpgnfgklaa", sum := "d4e927d35a4d645fb0b9059eae64f136dbe1624cebd34215b076be190e488440", func := "hypercube/hypercubelaw02.ClauseAsks", spec := "clauseAsks", unfollowed := true, recurses := true, plainKeys := false, apart := false, narrowed := true }
def ClauseAsksUptoSaid : Prop := clauseAsksUptoRow.holds Try.pinned (OpenSpec.upto clauseAsksSpec)

/-- 'hypercubelaw02.ClauseLeasts', WHERE WHAT IT READS IS OF BULK AT MOST 1048576: true; the input reads as it did. -/
def clauseLeastsUptoRow : OpenClaim := { program := "ytahbmjpgnfgklaa", sum := "d4e927d35a4d645fb0b9059eae64f136dbe1624cebd34215b076be190e488440", func := "hypercube/hypercubelaw02.ClauseLeasts", spec := "clauseLeasts", unfollowed := true, recurses := true, plainKeys := false, apart := false, narrowed := true }
def ClauseLeastsUptoSaid : Prop := clauseLeastsUptoRow.holds Try.pinned (OpenSpec.upto clauseLeastsSpec)

/-- 'hypercubelaw02.ClauseCovers', WHERE WHAT IT READS IS OF BULK AT MOST 1048576: true; the input reads as it did. -/
def clauseCoversUptoRow : OpenClaim := { program := "ytahbmjpgnfgklaa", sum := "d4e927d35a4d645fb0b9059eae64f136dbe1624cebd34215b076be190e488440", func := "hypercube/hypercubelaw02.ClauseCovers", spec := "clauseCovers", unfollowed := true, recurses := true, plainKeys := false, apart := false, narrowed := true }
def ClauseCoversUptoSaid : Prop := clauseCoversUptoRow.holds Try.pinned (OpenSpec.upto clauseCoversSpec)

/-- 'hypercubelaw02.ClauseTurns', WHERE WHAT IT READS IS OF BULK AT MOST 1048576: true; the input reads as it did. -/
def clauseTurnsUptoRow : OpenClaim := { program := "ytahbmjpgnfgklaa", sum := "d4e927d35a4d645fb0b9059eae64f136dbe1624cebd34215b076be190e488440", func := "hypercube/hypercubelaw02.ClauseTurns", spec := "clauseTurns", unfollowed := true, recurses := true, plainKeys := false, apart := false, narrowed := true }
def ClauseTurnsUptoSaid : Prop := clauseTurnsUptoRow.holds Try.pinned (OpenSpec.upto clauseTurnsSpec)

/-- 'hypercubelaw02.ClauseMeets', WHERE WHAT IT READS IS OF BULK AT MOST 1048576: true; the input reads as it did. -/
def clauseMeetsUptoRow : OpenClaim := { program := "ytahbmjpgnfgklaa", sum := "d4e927d35a4d645fb0b9059eae64f136dbe1624cebd34215b076be190e488440", func := "hypercube/hypercubelaw02.ClauseMeets", spec := "clauseMeets", unfollowed := true, recurses := true, plainKeys := false, apart := false, narrowed := true }
def ClauseMeetsUptoSaid : Prop := clauseMeetsUptoRow.holds Try.pinned (OpenSpec.upto clauseMeetsSpec)

/-- 'hypercubelaw02.ClauseLifts', WHERE WHAT IT READS IS OF BULK AT MOST 1048576: true; the input reads as it did. -/
def clauseLiftsUptoRow : OpenClaim := { program := "ytahbmjpgnfgklaa", sum := "d4e927d35a4d645fb0b9059eae64f136dbe1624cebd34215b076be190e488440", func := "hypercube/hypercubelaw02.ClauseLifts", spec := "clauseLifts", unfollowed := true, recurses := true, plainKeys := false, apart := false, narrowed := true }
def ClauseLiftsUptoSaid : Prop := clauseLiftsUptoRow.holds Try.pinned (OpenSpec.upto clauseLiftsSpec)

/-- 'hypercubelaw05.FaceRestricts', WHERE WHAT IT READS IS OF BULK AT MOST 1048576: true; the input reads as it did. -/
def faceRestrictsUptoRow : OpenClaim := { program := "ytahbmjpgnfgklaa", sum := "d4e927d35a4d645fb0b9059eae64f136dbe1624cebd34215b076be190e488440", func := "hypercube/hypercubelaw05.FaceRestricts", spec := "faceRestricts", unfollowed := true, recurses := true, plainKeys := false, apart := false, narrowed := true }
def FaceRestrictsUptoSaid : Prop := faceRestrictsUptoRow.holds Try.pinned (OpenSpec.upto faceRestrictsSpec)

/-- 'hypercubelaw05.FaceAdjoint', WHERE WHAT IT READS IS OF BULK AT MOST 1048576: true; the input reads as it did. -/
def faceAdjointUptoRow : OpenClaim := { program := "ytahbmjpgnfgklaa", sum := "d4e927d35a4d645fb0b9059eae64f136dbe1624cebd34215b076be190e488440", func := "hypercube/hypercubelaw05.FaceAdjoint", spec := "faceAdjoint", unfollowed := true, recurses := true, plainKeys := false, apart := false, narrowed := true }
def FaceAdjointUptoSaid : Prop := faceAdjointUptoRow.holds Try.pinned (OpenSpec.upto faceAdjointSpec)

/-- 'hypercubelaw05.FaceAsks', WHERE WHAT IT READS IS OF BULK AT MOST 1048576: true; the input reads as it did. -/
def faceAsksUptoRow : OpenClaim := { program := "ytahbmjpgnfgklaa", sum := "d4e927d35a4d645fb0b9059eae64f136dbe1624cebd34215b076be190e488440", func := "hypercube/hypercubelaw05.FaceAsks", spec := "faceAsks", unfollowed := true, recurses := true, plainKeys := false, apart := false, narrowed := true }
def FaceAsksUptoSaid : Prop := faceAsksUptoRow.holds Try.pinned (OpenSpec.upto faceAsksSpec)

/-- 'hypercubelaw05.FaceOrder', WHERE WHAT IT READS IS OF BULK AT MOST 1048576: true; the input reads as it did. -/
def faceOrderUptoRow : OpenClaim := { program := "ytahbmjpgnfgklaa", sum := "d4e927d35a4d645fb0b9059eae64f136dbe1624cebd34215b076be190e488440", func := "hypercube/hypercubelaw05.FaceOrder", spec := "faceOrder", unfollowed := true, recurses := true, plainKeys := false, apart := false, narrowed := true }
def FaceOrderUptoSaid : Prop := faceOrderUptoRow.holds Try.pinned (OpenSpec.upto faceOrderSpec)

end Rows
end Go.Proofs.Ytahbmjpgnfgklaa
