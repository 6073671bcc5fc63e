/-
  NARROWER THAN 'FOR EVERY INPUT', by the rows' own cells (each row's printed sentence says how): FormulaNots: laid · FormulaJoins: laid · FormulaLattice: laid · FormulaMorgan: laid · FormulaSelf: laid · FaceMakes: laid · FormulaPuts: laid.
  DERIVED. THE GIVEN ROWS OF THIS SEAT. 7 by the template 'for every input the law returns true; each argument reads behind the call as it read before'; 0 by the template 'total and deterministic' (their statements: YthphgilelpmfhaaDoorTotals.lean).
  GIVEN WITH THE SEED: the statements are not yours to turn. If you find one false, say at which input.
  Laid BY PROGRAM, IN A SANDBOX (cutbox-rows.mjs): the forced cells as the released guide's own fill.sh prints them over the translation 3f3ad5c17d1df404… (all of the seat's roots in one cut). By AI agents, Wed Nov 11 2026. No macro, syntax, notation, axiom, sorry.
-/
import Derived.Test.YthphgilelpmfhaaDoorChecked
import GoSem.Claim
import GoSem.ClaimJoined
import GoSem.ClaimMapViews
import Derived.JoinedTies
import Derived.KernelRfl
namespace Go.Proofs.YthphgilelpmfhaaDoor
/- THE CELL 'sum', in the pinned program and in every row, IS THE sha256 OF THE DUMP (.gsa) THAT YthphgilelpmfhaaDoorProg.lean LOADS. Nothing in Lean hashes anything: it is a label: what it is worth is what the hold of that sum in a sandbox is worth. -/
noncomputable def Tryd.pinned : Pinned := { name := "ythphgilelpmfhaadoor", sum := "3f3ad5c17d1df404964ec11974bcfb595de2288ab00a28d2ee6ddf30d07b231d", checked := Tryd.checked }
namespace Rows
def none {H : Type} : Left H := { results := [], args := [] }

/- WHAT THE LISTED PACKAGE-LEVEL VARIABLES READ AS WHEN THE CALL BEGINS. Each datum BY PROGRAM (the guide's laid-datum.mjs) off the statement by which the dump's own 'gosem.cut.vars' lays the variable. In a bare row this is a premise. The card (YthphgilelpmfhaaDoorCards.lean) ties it to the program's text. -/
def laid_math_bits_deBruijn32tab {H : Type} : DataW H := .agg [.lit (.int .u8 0), .lit (.int .u8 1), .lit (.int .u8 28), .lit (.int .u8 2), .lit (.int .u8 29), .lit (.int .u8 14), .lit (.int .u8 24), .lit (.int .u8 3), .lit (.int .u8 30), .lit (.int .u8 22), .lit (.int .u8 20), .lit (.int .u8 15), .lit (.int .u8 25), .lit (.int .u8 17), .lit (.int .u8 4), .lit (.int .u8 8), .lit (.int .u8 31), .lit (.int .u8 27), .lit (.int .u8 13), .lit (.int .u8 23), .lit (.int .u8 21), .lit (.int .u8 19), .lit (.int .u8 16), .lit (.int .u8 7), .lit (.int .u8 26), .lit (.int .u8 12), .lit (.int .u8 18), .lit (.int .u8 6), .lit (.int .u8 11), .lit (.int .u8 5), .lit (.int .u8 10), .lit (.int .u8 9)]

/-- 'hypercubelaw03.FormulaNots': WHATEVER THE INPUT: true; the input reads as it did. -/
def formulaNotsSpec : ChangeSpec := { name := "formulaNots", fn := fun _ => fun
  | [d] => { results := [.lit (.bool true)], args := [d] }
  | _ => none }
def formulaNotsRow : OpenClaim := { program := "ythphgilelpmfhaadoor", sum := "3f3ad5c17d1df404964ec11974bcfb595de2288ab00a28d2ee6ddf30d07b231d", func := "hypercube/hypercubelaw03.FormulaNots", spec := "formulaNots", unfollowed := true, recurses := true, named := ["math/bits.deBruijn32tab"], plainKeys := false, apart := false, laid := [("math/bits.deBruijn32tab", laid_math_bits_deBruijn32tab)] }
def FormulaNotsSaid : Prop := formulaNotsRow.holds Tryd.pinned (OpenSpec.ofChange formulaNotsSpec)

/-- ITS FALSE NEIGHBOUR: 'it returns false'. Refute it at one input. -/
def formulaNotsWrong : ChangeSpec := { name := "formulaNots", fn := fun _ => fun
  | [d] => { results := [.lit (.bool false)], args := [d] }
  | _ => none }
def FormulaNotsWrongFalsely : Prop := formulaNotsRow.holds Tryd.pinned (OpenSpec.ofChange formulaNotsWrong)

/-- 'hypercubelaw03.FormulaJoins': WHATEVER THE INPUT: true; the input reads as it did. -/
def formulaJoinsSpec : ChangeSpec := { name := "formulaJoins", fn := fun _ => fun
  | [d1, d2, d3] => { results := [.lit (.bool true)], args := [d1, d2, d3] }
  | _ => none }
def formulaJoinsRow : OpenClaim := { program := "ythphgilelpmfhaadoor", sum := "3f3ad5c17d1df404964ec11974bcfb595de2288ab00a28d2ee6ddf30d07b231d", func := "hypercube/hypercubelaw03.FormulaJoins", spec := "formulaJoins", unfollowed := true, recurses := true, named := ["math/bits.deBruijn32tab"], plainKeys := false, apart := false, laid := [("math/bits.deBruijn32tab", laid_math_bits_deBruijn32tab)] }
def FormulaJoinsSaid : Prop := formulaJoinsRow.holds Tryd.pinned (OpenSpec.ofChange formulaJoinsSpec)

/-- ITS FALSE NEIGHBOUR: 'it returns false'. Refute it at one input. -/
def formulaJoinsWrong : ChangeSpec := { name := "formulaJoins", fn := fun _ => fun
  | [d1, d2, d3] => { results := [.lit (.bool false)], args := [d1, d2, d3] }
  | _ => none }
def FormulaJoinsWrongFalsely : Prop := formulaJoinsRow.holds Tryd.pinned (OpenSpec.ofChange formulaJoinsWrong)

/-- 'hypercubelaw03.FormulaLattice': WHATEVER THE INPUT: true; the input reads as it did. -/
def formulaLatticeSpec : ChangeSpec := { name := "formulaLattice", fn := fun _ => fun
  | [d1, d2, d3] => { results := [.lit (.bool true)], args := [d1, d2, d3] }
  | _ => none }
def formulaLatticeRow : OpenClaim := { program := "ythphgilelpmfhaadoor", sum := "3f3ad5c17d1df404964ec11974bcfb595de2288ab00a28d2ee6ddf30d07b231d", func := "hypercube/hypercubelaw03.FormulaLattice", spec := "formulaLattice", unfollowed := true, recurses := true, named := ["math/bits.deBruijn32tab"], plainKeys := false, apart := false, laid := [("math/bits.deBruijn32tab", laid_math_bits_deBruijn32tab)] }
def FormulaLatticeSaid : Prop := formulaLatticeRow.holds Tryd.pinned (OpenSpec.ofChange formulaLatticeSpec)

/-- ITS FALSE NEIGHBOUR: 'it returns false'. Refute it at one input. -/
def formulaLatticeWrong : ChangeSpec := { name := "formulaLattice", fn := fun _ => fun
  | [d1, d2, d3] => { results := [.lit (.bool false)], args := [d1, d2, d3] }
  | _ => none }
def FormulaLatticeWrongFalsely : Prop := formulaLatticeRow.holds Tryd.pinned (OpenSpec.ofChange formulaLatticeWrong)

/-- 'hypercubelaw03.FormulaMorgan': WHATEVER THE INPUT: true; the input reads as it did. -/
def formulaMorganSpec : ChangeSpec := { name := "formulaMorgan", fn := fun _ => fun
  | [d1, d2] => { results := [.lit (.bool true)], args := [d1, d2] }
  | _ => none }
def formulaMorganRow : OpenClaim := { program := "ythphgilelpmfhaadoor", sum := "3f3ad5c17d1df404964ec11974bcfb595de2288ab00a28d2ee6ddf30d07b231d", func := "hypercube/hypercubelaw03.FormulaMorgan", spec := "formulaMorgan", unfollowed := true, recurses := true, named := ["math/bits.deBruijn32tab"], plainKeys := false, apart := false, laid := [("math/bits.deBruijn32tab", laid_math_bits_deBruijn32tab)] }
def FormulaMorganSaid : Prop := formulaMorganRow.holds Tryd.pinned (OpenSpec.ofChange formulaMorganSpec)

/-- ITS FALSE NEIGHBOUR: 'it returns false'. Refute it at one input. -/
def formulaMorganWrong : ChangeSpec := { name := "formulaMorgan", fn := fun _ => fun
  | [d1, d2] => { results := [.lit (.bool false)], args := [d1, d2] }
  | _ => none }
def FormulaMorganWrongFalsely : Prop := formulaMorganRow.holds Tryd.pinned (OpenSpec.ofChange formulaMorganWrong)

/-- 'hypercubelaw03.FormulaSelf': WHATEVER THE INPUT: true; the input reads as it did. -/
def formulaSelfSpec : ChangeSpec := { name := "formulaSelf", fn := fun _ => fun
  | [d1, d2, d3] => { results := [.lit (.bool true)], args := [d1, d2, d3] }
  | _ => none }
def formulaSelfRow : OpenClaim := { program := "ythphgilelpmfhaadoor", sum := "3f3ad5c17d1df404964ec11974bcfb595de2288ab00a28d2ee6ddf30d07b231d", func := "hypercube/hypercubelaw03.FormulaSelf", spec := "formulaSelf", unfollowed := true, recurses := true, named := ["math/bits.deBruijn32tab"], plainKeys := false, apart := false, laid := [("math/bits.deBruijn32tab", laid_math_bits_deBruijn32tab)] }
def FormulaSelfSaid : Prop := formulaSelfRow.holds Tryd.pinned (OpenSpec.ofChange formulaSelfSpec)

/-- ITS FALSE NEIGHBOUR: 'it returns false'. Refute it at one input. -/
def formulaSelfWrong : ChangeSpec := { name := "formulaSelf", fn := fun _ => fun
  | [d1, d2, d3] => { results := [.lit (.bool false)], args := [d1, d2, d3] }
  | _ => none }
def FormulaSelfWrongFalsely : Prop := formulaSelfRow.holds Tryd.pinned (OpenSpec.ofChange formulaSelfWrong)

/-- 'hypercubelaw05.FaceMakes': WHATEVER THE INPUT: true; the input reads as it did. -/
def faceMakesSpec : ChangeSpec := { name := "faceMakes", fn := fun _ => fun
  | [d1, d2] => { results := [.lit (.bool true)], args := [d1, d2] }
  | _ => none }
def faceMakesRow : OpenClaim := { program := "ythphgilelpmfhaadoor", sum := "3f3ad5c17d1df404964ec11974bcfb595de2288ab00a28d2ee6ddf30d07b231d", func := "hypercube/hypercubelaw05.FaceMakes", spec := "faceMakes", unfollowed := true, recurses := true, named := ["math/bits.deBruijn32tab"], plainKeys := false, apart := false, laid := [("math/bits.deBruijn32tab", laid_math_bits_deBruijn32tab)] }
def FaceMakesSaid : Prop := faceMakesRow.holds Tryd.pinned (OpenSpec.ofChange faceMakesSpec)

/-- ITS FALSE NEIGHBOUR: 'it returns false'. Refute it at one input. -/
def faceMakesWrong : ChangeSpec := { name := "faceMakes", fn := fun _ => fun
  | [d1, d2] => { results := [.lit (.bool false)], args := [d1, d2] }
  | _ => none }
def FaceMakesWrongFalsely : Prop := faceMakesRow.holds Tryd.pinned (OpenSpec.ofChange faceMakesWrong)

/-- 'hypercubelaw03.FormulaPuts': WHATEVER THE INPUT: true; the input reads as it did. -/
def formulaPutsSpec : ChangeSpec := { name := "formulaPuts", fn := fun _ => fun
  | [d1, d2, d3, d4, d5] => { results := [.lit (.bool true)], args := [d1, d2, d3, d4, d5] }
  | _ => none }
def formulaPutsRow : OpenClaim := { program := "ythphgilelpmfhaadoor", sum := "3f3ad5c17d1df404964ec11974bcfb595de2288ab00a28d2ee6ddf30d07b231d", func := "hypercube/hypercubelaw03.FormulaPuts", spec := "formulaPuts", unfollowed := true, recurses := true, named := ["math/bits.deBruijn32tab"], plainKeys := false, apart := false, laid := [("math/bits.deBruijn32tab", laid_math_bits_deBruijn32tab)] }
def FormulaPutsSaid : Prop := formulaPutsRow.holds Tryd.pinned (OpenSpec.ofChange formulaPutsSpec)

/-- ITS FALSE NEIGHBOUR: 'it returns false'. Refute it at one input. -/
def formulaPutsWrong : ChangeSpec := { name := "formulaPuts", fn := fun _ => fun
  | [d1, d2, d3, d4, d5] => { results := [.lit (.bool false)], args := [d1, d2, d3, d4, d5] }
  | _ => none }
def FormulaPutsWrongFalsely : Prop := formulaPutsRow.holds Tryd.pinned (OpenSpec.ofChange formulaPutsWrong)

/- THE SECOND FORM. 'bulk': how many values and letters a reading holds, each counted each time it is reached (what is shared counts as often as it is met; a slice's spare places count too). A statement '..UptoSaid' is the law's where the arguments, and the package variables that the reading takes, are together of bulk at most 1048576: NARROWER than '..Said'. Prove '..Said' where nothing that the law and all that it calls make is longer than what came in: it says more and counts as full. Else prove '..UptoSaid'. A law counts once. -/
mutual
def uptoBulk {H : Type} : DataW H → Nat
  | .lit (.string bytes) => bytes.length + 1
  | .lit _ => 1
  | .nil => 1
  | .ptr d => uptoBulk d + 1
  | .slice elems spare => uptoBulkAll elems + uptoBulkAll spare + 1
  | .agg parts => uptoBulkAll parts + 1
  | .iface _ d => uptoBulk d + 1
  | .map entries => uptoBulkEntries entries + 1
  | .held _ => 1
def uptoBulkAll {H : Type} : List (DataW H) → Nat
  | [] => 0
  | d :: r => uptoBulk d + uptoBulkAll r
def uptoBulkEntries {H : Type} : List (Lit × DataW H) → Nat
  | [] => 0
  | x :: r => uptoBulkEntry x + uptoBulkEntries r
def uptoBulkEntry {H : Type} : Lit × DataW H → Nat
  | (.string bytes, d) => bytes.length + uptoBulk d + 1
  | (_, d) => uptoBulk d + 1
 end
def uptoSmall : (H : Type) → List (DataW H) → Bool := fun _ ds => decide (uptoBulkAll ds ≤ 1048576)
def OpenSpec.upto (s : _root_.Go.ChangeSpec) : _root_.Go.OpenSpec := { _root_.Go.OpenSpec.ofChange s with cond := some uptoSmall }

/-- 'hypercubelaw03.FormulaNots', WHERE WHAT IT READS IS OF BULK AT MOST 1048576: true; the input reads as it did. -/
def formulaNotsUptoRow : OpenClaim := { program := "ythphgilelpmfhaadoor", sum := "3f3ad5c17d1df404964ec11974bcfb595de2288ab00a28d2ee6ddf30d07b231d", func := "hypercube/hypercubelaw03.FormulaNots", spec := "formulaNots", unfollowed := true, recurses := true, named := ["math/bits.deBruijn32tab"], plainKeys := false, apart := false, laid := [("math/bits.deBruijn32tab", laid_math_bits_deBruijn32tab)], narrowed := true }
def FormulaNotsUptoSaid : Prop := formulaNotsUptoRow.holds Tryd.pinned (OpenSpec.upto formulaNotsSpec)

/-- 'hypercubelaw03.FormulaJoins', WHERE WHAT IT READS IS OF BULK AT MOST 1048576: true; the input reads as it did. -/
def formulaJoinsUptoRow : OpenClaim := { program := "ythphgilelpmfhaadoor", sum := "3f3ad5c17d1df404964ec11974bcfb595de2288ab00a28d2ee6ddf30d07b231d", func := "hypercube/hypercubelaw03.FormulaJoins", spec := "formulaJoins", unfollowed := true, recurses := true, named := ["math/bits.deBruijn32tab"], plainKeys := false, apart := false, laid := [("math/bits.deBruijn32tab", laid_math_bits_deBruijn32tab)], narrowed := true }
def FormulaJoinsUptoSaid : Prop := formulaJoinsUptoRow.holds Tryd.pinned (OpenSpec.upto formulaJoinsSpec)

/-- 'hypercubelaw03.FormulaLattice', WHERE WHAT IT READS IS OF BULK AT MOST 1048576: true; the input reads as it did. -/
def formulaLatticeUptoRow : OpenClaim := { program := "ythphgilelpmfhaadoor", sum := "3f3ad5c17d1df404964ec11974bcfb595de2288ab00a28d2ee6ddf30d07b231d", func := "hypercube/hypercubelaw03.FormulaLattice", spec := "formulaLattice", unfollowed := true, recurses := true, named := ["math/bits.deBruijn32tab"], plainKeys := false, apart := false, laid := [("math/bits.deBruijn32tab", laid_math_bits_deBruijn32tab)], narrowed := true }
def FormulaLatticeUptoSaid : Prop := formulaLatticeUptoRow.holds Tryd.pinned (OpenSpec.upto formulaLatticeSpec)

/-- 'hypercubelaw03.FormulaMorgan', WHERE WHAT IT READS IS OF BULK AT MOST 1048576: true; the input reads as it did. -/
def formulaMorganUptoRow : OpenClaim := { program := "ythphgilelpmfhaadoor", sum := "3f3ad5c17d1df404964ec11974bcfb595de2288ab00a28d2ee6ddf30d07b231d", func := "hypercube/hypercubelaw03.FormulaMorgan", spec := "formulaMorgan", unfollowed := true, recurses := true, named := ["math/bits.deBruijn32tab"], plainKeys := false, apart := false, laid := [("math/bits.deBruijn32tab", laid_math_bits_deBruijn32tab)], narrowed := true }
def FormulaMorganUptoSaid : Prop := formulaMorganUptoRow.holds Tryd.pinned (OpenSpec.upto formulaMorganSpec)

/-- 'hypercubelaw03.FormulaSelf', WHERE WHAT IT READS IS OF BULK AT MOST 1048576: true; the input reads as it did. -/
def formulaSelfUptoRow : OpenClaim := { program := "ythphgilelpmfhaadoor", sum := "3f3ad5c17d1df404964ec11974bcfb595de2288ab00a28d2ee6ddf30d07b231d", func := "hypercube/hypercubelaw03.FormulaSelf", spec := "formulaSelf", unfollowed := true, recurses := true, named := ["math/bits.deBruijn32tab"], plainKeys := false, apart := false, laid := [("math/bits.deBruijn32tab", laid_math_bits_deBruijn32tab)], narrowed := true }
def FormulaSelfUptoSaid : Prop := formulaSelfUptoRow.holds Tryd.pinned (OpenSpec.upto formulaSelfSpec)

/-- 'hypercubelaw05.FaceMakes', WHERE WHAT IT READS IS OF BULK AT MOST 1048576: true; the input reads as it did. -/
def faceMakesUptoRow : OpenClaim := { program := "ythphgilelpmfhaadoor", sum := "3f3ad5c17d1df404964ec11974bcfb595de2288ab00a28d2ee6ddf30d07b231d", func := "hypercube/hypercubelaw05.FaceMakes", spec := "faceMakes", unfollowed := true, recurses := true, named := ["math/bits.deBruijn32tab"], plainKeys := false, apart := false, laid := [("math/bits.deBruijn32tab", laid_math_bits_deBruijn32tab)], narrowed := true }
def FaceMakesUptoSaid : Prop := faceMakesUptoRow.holds Tryd.pinned (OpenSpec.upto faceMakesSpec)

/-- 'hypercubelaw03.FormulaPuts', WHERE WHAT IT READS IS OF BULK AT MOST 1048576: true; the input reads as it did. -/
def formulaPutsUptoRow : OpenClaim := { program := "ythphgilelpmfhaadoor", sum := "3f3ad5c17d1df404964ec11974bcfb595de2288ab00a28d2ee6ddf30d07b231d", func := "hypercube/hypercubelaw03.FormulaPuts", spec := "formulaPuts", unfollowed := true, recurses := true, named := ["math/bits.deBruijn32tab"], plainKeys := false, apart := false, laid := [("math/bits.deBruijn32tab", laid_math_bits_deBruijn32tab)], narrowed := true }
def FormulaPutsUptoSaid : Prop := formulaPutsUptoRow.holds Tryd.pinned (OpenSpec.upto formulaPutsSpec)

end Rows
end Go.Proofs.YthphgilelpmfhaaDoor
