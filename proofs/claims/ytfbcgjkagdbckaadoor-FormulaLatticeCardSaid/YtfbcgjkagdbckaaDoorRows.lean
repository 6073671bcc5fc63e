/-
  NARROWER THAN 'FOR EVERY INPUT', by the rows' own cells (each row's printed sentence says how): TruthValues: laid · TruthEvals: laid · TruthAlgebra: laid · TruthTells: laid · TruthDecides: laid · FormulaJoins: laid · FormulaLattice: laid · TruthMakes: laid · FaceTruth: laid · TruthPuts: laid · FormulaPuts: laid.
  DERIVED. THE GIVEN ROWS OF THIS SEAT. 11 by the template 'for every input the law returns true; each argument reads behind the call as it read before'; 0 by the template 'total and deterministic' (their statements: YtfbcgjkagdbckaaDoorTotals.lean).
  GIVEN WITH THE SEED: the statements are not yours to turn. If you find one false, say at which input.
  Laid BY PROGRAM, IN A SANDBOX (cutbox-rows.mjs): the forced cells as the released guide's own fill.sh prints them over the translation 94bc688644eafc28… (all of the seat's roots in one cut). By AI agents, Wed Nov 11 2026. No macro, syntax, notation, axiom, sorry.
-/
import Derived.Test.YtfbcgjkagdbckaaDoorChecked
import GoSem.Claim
import GoSem.ClaimJoined
import GoSem.ClaimMapViews
import Derived.JoinedTies
import Derived.KernelRfl
namespace Go.Proofs.YtfbcgjkagdbckaaDoor
/- THE CELL 'sum', in the pinned program and in every row, IS THE sha256 OF THE DUMP (.gsa) THAT YtfbcgjkagdbckaaDoorProg.lean LOADS. Nothing in Lean hashes anything: it is a label: what it is worth is what the hold of that sum in a sandbox is worth. -/
noncomputable def Tryd.pinned : Pinned := { name := "ytfbcgjkagdbckaadoor", sum := "94bc688644eafc2885be203a1e80c19028c1fc8d26e7d3eb5174301ae2e4cb27", checked := Tryd.checked }
namespace Rows
def none {H : Type} : Left H := { results := [], args := [] }

/- WHAT THE LISTED PACKAGE-LEVEL VARIABLES READ AS WHEN THE CALL BEGINS. Each datum BY PROGRAM (the guide's laid-datum.mjs) off the statement by which the dump's own 'gosem.cut.vars' lays the variable. In a bare row this is a premise. The card (YtfbcgjkagdbckaaDoorCards.lean) ties it to the program's text. -/
def laid_math_bits_deBruijn32tab {H : Type} : DataW H := .agg [.lit (.int .u8 0), .lit (.int .u8 1), .lit (.int .u8 28), .lit (.int .u8 2), .lit (.int .u8 29), .lit (.int .u8 14), .lit (.int .u8 24), .lit (.int .u8 3), .lit (.int .u8 30), .lit (.int .u8 22), .lit (.int .u8 20), .lit (.int .u8 15), .lit (.int .u8 25), .lit (.int .u8 17), .lit (.int .u8 4), .lit (.int .u8 8), .lit (.int .u8 31), .lit (.int .u8 27), .lit (.int .u8 13), .lit (.int .u8 23), .lit (.int .u8 21), .lit (.int .u8 19), .lit (.int .u8 16), .lit (.int .u8 7), .lit (.int .u8 26), .lit (.int .u8 12), .lit (.int .u8 18), .lit (.int .u8 6), .lit (.int .u8 11), .lit (.int .u8 5), .lit (.int .u8 10), .lit (.int .u8 9)]
def laid_hypercube_truth_meets {H : Type} : DataW H := .agg [.agg [.lit (.int .i64 0), .lit (.int .i64 0), .lit (.int .i64 0), .lit (.int .i64 0)], .agg [.lit (.int .i64 0), .lit (.int .i64 1), .lit (.int .i64 2), .lit (.int .i64 3)], .agg [.lit (.int .i64 0), .lit (.int .i64 2), .lit (.int .i64 2), .lit (.int .i64 0)], .agg [.lit (.int .i64 0), .lit (.int .i64 3), .lit (.int .i64 0), .lit (.int .i64 3)]]
def laid_hypercube_truth_joins {H : Type} : DataW H := .agg [.agg [.lit (.int .i64 0), .lit (.int .i64 1), .lit (.int .i64 2), .lit (.int .i64 3)], .agg [.lit (.int .i64 1), .lit (.int .i64 1), .lit (.int .i64 1), .lit (.int .i64 1)], .agg [.lit (.int .i64 2), .lit (.int .i64 1), .lit (.int .i64 2), .lit (.int .i64 1)], .agg [.lit (.int .i64 3), .lit (.int .i64 1), .lit (.int .i64 1), .lit (.int .i64 3)]]
def laid_hypercube_truth_nots {H : Type} : DataW H := .agg [.lit (.int .i64 1), .lit (.int .i64 0), .lit (.int .i64 2), .lit (.int .i64 3)]

/-- 'hypercubelaw04.TruthValues': WHATEVER THE INPUT: true; the input reads as it did. -/
def truthValuesSpec : ChangeSpec := { name := "truthValues", fn := fun _ => fun
  | [d1, d2] => { results := [.lit (.bool true)], args := [d1, d2] }
  | _ => none }
def truthValuesRow : OpenClaim := { program := "ytfbcgjkagdbckaadoor", sum := "94bc688644eafc2885be203a1e80c19028c1fc8d26e7d3eb5174301ae2e4cb27", func := "hypercube/hypercubelaw04.TruthValues", spec := "truthValues", unfollowed := true, recurses := true, named := ["hypercube/truth.meets", "hypercube/truth.joins", "hypercube/truth.nots", "math/bits.deBruijn32tab"], plainKeys := false, apart := false, laid := [("math/bits.deBruijn32tab", laid_math_bits_deBruijn32tab), ("hypercube/truth.meets", laid_hypercube_truth_meets), ("hypercube/truth.joins", laid_hypercube_truth_joins), ("hypercube/truth.nots", laid_hypercube_truth_nots)] }
def TruthValuesSaid : Prop := truthValuesRow.holds Tryd.pinned (OpenSpec.ofChange truthValuesSpec)

/-- ITS FALSE NEIGHBOUR: 'it returns false'. Refute it at one input. -/
def truthValuesWrong : ChangeSpec := { name := "truthValues", fn := fun _ => fun
  | [d1, d2] => { results := [.lit (.bool false)], args := [d1, d2] }
  | _ => none }
def TruthValuesWrongFalsely : Prop := truthValuesRow.holds Tryd.pinned (OpenSpec.ofChange truthValuesWrong)

/-- 'hypercubelaw04.TruthEvals': WHATEVER THE INPUT: true; the input reads as it did. -/
def truthEvalsSpec : ChangeSpec := { name := "truthEvals", fn := fun _ => fun
  | [d1, d2] => { results := [.lit (.bool true)], args := [d1, d2] }
  | _ => none }
def truthEvalsRow : OpenClaim := { program := "ytfbcgjkagdbckaadoor", sum := "94bc688644eafc2885be203a1e80c19028c1fc8d26e7d3eb5174301ae2e4cb27", func := "hypercube/hypercubelaw04.TruthEvals", spec := "truthEvals", unfollowed := true, recurses := true, named := ["math/bits.deBruijn32tab", "hypercube/truth.meets", "hypercube/truth.nots", "hypercube/truth.joins"], plainKeys := false, apart := false, laid := [("math/bits.deBruijn32tab", laid_math_bits_deBruijn32tab), ("hypercube/truth.meets", laid_hypercube_truth_meets), ("hypercube/truth.joins", laid_hypercube_truth_joins), ("hypercube/truth.nots", laid_hypercube_truth_nots)] }
def TruthEvalsSaid : Prop := truthEvalsRow.holds Tryd.pinned (OpenSpec.ofChange truthEvalsSpec)

/-- ITS FALSE NEIGHBOUR: 'it returns false'. Refute it at one input. -/
def truthEvalsWrong : ChangeSpec := { name := "truthEvals", fn := fun _ => fun
  | [d1, d2] => { results := [.lit (.bool false)], args := [d1, d2] }
  | _ => none }
def TruthEvalsWrongFalsely : Prop := truthEvalsRow.holds Tryd.pinned (OpenSpec.ofChange truthEvalsWrong)

/-- 'hypercubelaw04.TruthAlgebra': WHATEVER THE INPUT: true; the input reads as it did. -/
def truthAlgebraSpec : ChangeSpec := { name := "truthAlgebra", fn := fun _ => fun
  | [d1, d2, d3] => { results := [.lit (.bool true)], args := [d1, d2, d3] }
  | _ => none }
def truthAlgebraRow : OpenClaim := { program := "ytfbcgjkagdbckaadoor", sum := "94bc688644eafc2885be203a1e80c19028c1fc8d26e7d3eb5174301ae2e4cb27", func := "hypercube/hypercubelaw04.TruthAlgebra", spec := "truthAlgebra", unfollowed := true, recurses := true, named := ["math/bits.deBruijn32tab", "hypercube/truth.meets", "hypercube/truth.nots", "hypercube/truth.joins"], plainKeys := false, apart := false, laid := [("math/bits.deBruijn32tab", laid_math_bits_deBruijn32tab), ("hypercube/truth.meets", laid_hypercube_truth_meets), ("hypercube/truth.joins", laid_hypercube_truth_joins), ("hypercube/truth.nots", laid_hypercube_truth_nots)] }
def TruthAlgebraSaid : Prop := truthAlgebraRow.holds Tryd.pinned (OpenSpec.ofChange truthAlgebraSpec)

/-- ITS FALSE NEIGHBOUR: 'it returns false'. Refute it at one input. -/
def truthAlgebraWrong : ChangeSpec := { name := "truthAlgebra", fn := fun _ => fun
  | [d1, d2, d3] => { results := [.lit (.bool false)], args := [d1, d2, d3] }
  | _ => none }
def TruthAlgebraWrongFalsely : Prop := truthAlgebraRow.holds Tryd.pinned (OpenSpec.ofChange truthAlgebraWrong)

/-- 'hypercubelaw04.TruthTells': WHATEVER THE INPUT: true; the input reads as it did. -/
def truthTellsSpec : ChangeSpec := { name := "truthTells", fn := fun _ => fun
  | [d1, d2] => { results := [.lit (.bool true)], args := [d1, d2] }
  | _ => none }
def truthTellsRow : OpenClaim := { program := "ytfbcgjkagdbckaadoor", sum := "94bc688644eafc2885be203a1e80c19028c1fc8d26e7d3eb5174301ae2e4cb27", func := "hypercube/hypercubelaw04.TruthTells", spec := "truthTells", unfollowed := true, recurses := true, named := ["math/bits.deBruijn32tab", "hypercube/truth.meets", "hypercube/truth.nots", "hypercube/truth.joins"], plainKeys := false, apart := false, laid := [("math/bits.deBruijn32tab", laid_math_bits_deBruijn32tab), ("hypercube/truth.meets", laid_hypercube_truth_meets), ("hypercube/truth.joins", laid_hypercube_truth_joins), ("hypercube/truth.nots", laid_hypercube_truth_nots)] }
def TruthTellsSaid : Prop := truthTellsRow.holds Tryd.pinned (OpenSpec.ofChange truthTellsSpec)

/-- ITS FALSE NEIGHBOUR: 'it returns false'. Refute it at one input. -/
def truthTellsWrong : ChangeSpec := { name := "truthTells", fn := fun _ => fun
  | [d1, d2] => { results := [.lit (.bool false)], args := [d1, d2] }
  | _ => none }
def TruthTellsWrongFalsely : Prop := truthTellsRow.holds Tryd.pinned (OpenSpec.ofChange truthTellsWrong)

/-- 'hypercubelaw04.TruthDecides': WHATEVER THE INPUT: true; the input reads as it did. -/
def truthDecidesSpec : ChangeSpec := { name := "truthDecides", fn := fun _ => fun
  | [d1, d2] => { results := [.lit (.bool true)], args := [d1, d2] }
  | _ => none }
def truthDecidesRow : OpenClaim := { program := "ytfbcgjkagdbckaadoor", sum := "94bc688644eafc2885be203a1e80c19028c1fc8d26e7d3eb5174301ae2e4cb27", func := "hypercube/hypercubelaw04.TruthDecides", spec := "truthDecides", unfollowed := true, recurses := true, named := ["math/bits.deBruijn32tab", "hypercube/truth.meets", "hypercube/truth.nots", "hypercube/truth.joins"], plainKeys := false, apart := false, laid := [("math/bits.deBruijn32tab", laid_math_bits_deBruijn32tab), ("hypercube/truth.meets", laid_hypercube_truth_meets), ("hypercube/truth.joins", laid_hypercube_truth_joins), ("hypercube/truth.nots", laid_hypercube_truth_nots)] }
def TruthDecidesSaid : Prop := truthDecidesRow.holds Tryd.pinned (OpenSpec.ofChange truthDecidesSpec)

/-- ITS FALSE NEIGHBOUR: 'it returns false'. Refute it at one input. -/
def truthDecidesWrong : ChangeSpec := { name := "truthDecides", fn := fun _ => fun
  | [d1, d2] => { results := [.lit (.bool false)], args := [d1, d2] }
  | _ => none }
def TruthDecidesWrongFalsely : Prop := truthDecidesRow.holds Tryd.pinned (OpenSpec.ofChange truthDecidesWrong)

/-- 'hypercubelaw03.FormulaJoins': WHATEVER THE INPUT: true; the input reads as it did. -/
def formulaJoinsSpec : ChangeSpec := { name := "formulaJoins", fn := fun _ => fun
  | [d1, d2, d3] => { results := [.lit (.bool true)], args := [d1, d2, d3] }
  | _ => none }
def formulaJoinsRow : OpenClaim := { program := "ytfbcgjkagdbckaadoor", sum := "94bc688644eafc2885be203a1e80c19028c1fc8d26e7d3eb5174301ae2e4cb27", func := "hypercube/hypercubelaw03.FormulaJoins", spec := "formulaJoins", unfollowed := true, recurses := true, named := ["math/bits.deBruijn32tab"], plainKeys := false, apart := false, laid := [("math/bits.deBruijn32tab", laid_math_bits_deBruijn32tab)] }
def FormulaJoinsSaid : Prop := formulaJoinsRow.holds Tryd.pinned (OpenSpec.ofChange formulaJoinsSpec)

/-- ITS FALSE NEIGHBOUR: 'it returns false'. Refute it at one input. -/
def formulaJoinsWrong : ChangeSpec := { name := "formulaJoins", fn := fun _ => fun
  | [d1, d2, d3] => { results := [.lit (.bool false)], args := [d1, d2, d3] }
  | _ => none }
def FormulaJoinsWrongFalsely : Prop := formulaJoinsRow.holds Tryd.pinned (OpenSpec.ofChange formulaJoinsWrong)

/-- 'hypercubelaw03.FormulaLattice': WHATEVER THE INPUT: true; the input reads as it did. -/
def formulaLatticeSpec : ChangeSpec := { name := "formulaLattice", fn := fun _ => fun
  | [d1, d2, d3] => { results := [.lit (.bool true)], args := [d1, d2, d3] }
  | _ => none }
def formulaLatticeRow : OpenClaim := { program := "ytfbcgjkagdbckaadoor", sum := "94bc688644eafc2885be203a1e80c19028c1fc8d26e7d3eb5174301ae2e4cb27", func := "hypercube/hypercubelaw03.FormulaLattice", spec := "formulaLattice", unfollowed := true, recurses := true, named := ["math/bits.deBruijn32tab"], plainKeys := false, apart := false, laid := [("math/bits.deBruijn32tab", laid_math_bits_deBruijn32tab)] }
def FormulaLatticeSaid : Prop := formulaLatticeRow.holds Tryd.pinned (OpenSpec.ofChange formulaLatticeSpec)

/-- ITS FALSE NEIGHBOUR: 'it returns false'. Refute it at one input. -/
def formulaLatticeWrong : ChangeSpec := { name := "formulaLattice", fn := fun _ => fun
  | [d1, d2, d3] => { results := [.lit (.bool false)], args := [d1, d2, d3] }
  | _ => none }
def FormulaLatticeWrongFalsely : Prop := formulaLatticeRow.holds Tryd.pinned (OpenSpec.ofChange formulaLatticeWrong)

/-- 'hypercubelaw04.TruthMakes': WHATEVER THE INPUT: true; the input reads as it did. -/
def truthMakesSpec : ChangeSpec := { name := "truthMakes", fn := fun _ => fun
  | [d1, d2, d3] => { results := [.lit (.bool true)], args := [d1, d2, d3] }
  | _ => none }
def truthMakesRow : OpenClaim := { program := "ytfbcgjkagdbckaadoor", sum := "94bc688644eafc2885be203a1e80c19028c1fc8d26e7d3eb5174301ae2e4cb27", func := "hypercube/hypercubelaw04.TruthMakes", spec := "truthMakes", unfollowed := true, recurses := true, named := ["math/bits.deBruijn32tab", "hypercube/truth.meets", "hypercube/truth.nots", "hypercube/truth.joins"], plainKeys := false, apart := false, laid := [("math/bits.deBruijn32tab", laid_math_bits_deBruijn32tab), ("hypercube/truth.meets", laid_hypercube_truth_meets), ("hypercube/truth.joins", laid_hypercube_truth_joins), ("hypercube/truth.nots", laid_hypercube_truth_nots)] }
def TruthMakesSaid : Prop := truthMakesRow.holds Tryd.pinned (OpenSpec.ofChange truthMakesSpec)

/-- ITS FALSE NEIGHBOUR: 'it returns false'. Refute it at one input. -/
def truthMakesWrong : ChangeSpec := { name := "truthMakes", fn := fun _ => fun
  | [d1, d2, d3] => { results := [.lit (.bool false)], args := [d1, d2, d3] }
  | _ => none }
def TruthMakesWrongFalsely : Prop := truthMakesRow.holds Tryd.pinned (OpenSpec.ofChange truthMakesWrong)

/-- 'hypercubelaw05.FaceTruth': WHATEVER THE INPUT: true; the input reads as it did. -/
def faceTruthSpec : ChangeSpec := { name := "faceTruth", fn := fun _ => fun
  | [d1, d2] => { results := [.lit (.bool true)], args := [d1, d2] }
  | _ => none }
def faceTruthRow : OpenClaim := { program := "ytfbcgjkagdbckaadoor", sum := "94bc688644eafc2885be203a1e80c19028c1fc8d26e7d3eb5174301ae2e4cb27", func := "hypercube/hypercubelaw05.FaceTruth", spec := "faceTruth", unfollowed := true, recurses := true, named := ["math/bits.deBruijn32tab", "hypercube/truth.meets", "hypercube/truth.nots", "hypercube/truth.joins"], plainKeys := false, apart := false, laid := [("math/bits.deBruijn32tab", laid_math_bits_deBruijn32tab), ("hypercube/truth.meets", laid_hypercube_truth_meets), ("hypercube/truth.joins", laid_hypercube_truth_joins), ("hypercube/truth.nots", laid_hypercube_truth_nots)] }
def FaceTruthSaid : Prop := faceTruthRow.holds Tryd.pinned (OpenSpec.ofChange faceTruthSpec)

/-- ITS FALSE NEIGHBOUR: 'it returns false'. Refute it at one input. -/
def faceTruthWrong : ChangeSpec := { name := "faceTruth", fn := fun _ => fun
  | [d1, d2] => { results := [.lit (.bool false)], args := [d1, d2] }
  | _ => none }
def FaceTruthWrongFalsely : Prop := faceTruthRow.holds Tryd.pinned (OpenSpec.ofChange faceTruthWrong)

/-- 'hypercubelaw04.TruthPuts': WHATEVER THE INPUT: true; the input reads as it did. -/
def truthPutsSpec : ChangeSpec := { name := "truthPuts", fn := fun _ => fun
  | [d1, d2, d3, d4] => { results := [.lit (.bool true)], args := [d1, d2, d3, d4] }
  | _ => none }
def truthPutsRow : OpenClaim := { program := "ytfbcgjkagdbckaadoor", sum := "94bc688644eafc2885be203a1e80c19028c1fc8d26e7d3eb5174301ae2e4cb27", func := "hypercube/hypercubelaw04.TruthPuts", spec := "truthPuts", unfollowed := true, recurses := true, named := ["math/bits.deBruijn32tab", "hypercube/truth.meets", "hypercube/truth.nots", "hypercube/truth.joins"], plainKeys := false, apart := false, laid := [("math/bits.deBruijn32tab", laid_math_bits_deBruijn32tab), ("hypercube/truth.meets", laid_hypercube_truth_meets), ("hypercube/truth.joins", laid_hypercube_truth_joins), ("hypercube/truth.nots", laid_hypercube_truth_nots)] }
def TruthPutsSaid : Prop := truthPutsRow.holds Tryd.pinned (OpenSpec.ofChange truthPutsSpec)

/-- ITS FALSE NEIGHBOUR: 'it returns false'. Refute it at one input. -/
def truthPutsWrong : ChangeSpec := { name := "truthPuts", fn := fun _ => fun
  | [d1, d2, d3, d4] => { results := [.lit (.bool false)], args := [d1, d2, d3, d4] }
  | _ => none }
def TruthPutsWrongFalsely : Prop := truthPutsRow.holds Tryd.pinned (OpenSpec.ofChange truthPutsWrong)

/-- 'hypercubelaw03.FormulaPuts': WHATEVER THE INPUT: true; the input reads as it did. -/
def formulaPutsSpec : ChangeSpec := { name := "formulaPuts", fn := fun _ => fun
  | [d1, d2, d3, d4, d5] => { results := [.lit (.bool true)], args := [d1, d2, d3, d4, d5] }
  | _ => none }
def formulaPutsRow : OpenClaim := { program := "ytfbcgjkagdbckaadoor", sum := "94bc688644eafc2885be203a1e80c19028c1fc8d26e7d3eb5174301ae2e4cb27", func := "hypercube/hypercubelaw03.FormulaPuts", spec := "formulaPuts", unfollowed := true, recurses := true, named := ["math/bits.deBruijn32tab"], plainKeys := false, apart := false, laid := [("math/bits.deBruijn32tab", laid_math_bits_deBruijn32tab)] }
def FormulaPutsSaid : Prop := formulaPutsRow.holds Tryd.pinned (OpenSpec.ofChange formulaPutsSpec)

/-- ITS FALSE NEIGHBOUR: 'it returns false'. Refute it at one input. -/
def formulaPutsWrong : ChangeSpec := { name := "formulaPuts", fn := fun _ => fun
  | [d1, d2, d3, d4, d5] => { results := [.lit (.bool false)], args := [d1, d2, d3, d4, d5] }
  | _ => none }
def FormulaPutsWrongFalsely : Prop := formulaPutsRow.holds Tryd.pinned (OpenSpec.ofChange formulaPutsWrong)

/- THE SECOND FORM. 'bulk': how many values and letters a reading holds, each counted each time it is reached (what is shared counts as often as it is met; a slice's spare places count too). A statement '..UptoSaid' is the law's where the arguments, and the package variables that the reading takes, are together of bulk at most 1048576: NARROWER than '..Said'. Prove '..Said' where nothing that the law and all that it calls make is longer than what came in: it says more and counts as full. Else prove '..UptoSaid'. A law counts once. -/
mutual
def uptoBulk {H : Type} : DataW H → Nat
  | .lit (.string bytes) => bytes.length + 1
  | .lit _ => 1
  | .nil => 1
  | .ptr d => uptoBulk d + 1
  | .slice elems spare => uptoBulkAll elems + uptoBulkAll spare + 1
  | .agg parts => uptoBulkAll parts + 1
  | .iface _ d => uptoBulk d + 1
  | .map entries => uptoBulkEntries entries + 1
  | .held _ => 1
def uptoBulkAll {H : Type} : List (DataW H) → Nat
  | [] => 0
  | d :: r => uptoBulk d + uptoBulkAll r
def uptoBulkEntries {H : Type} : List (Lit × DataW H) → Nat
  | [] => 0
  | x :: r => uptoBulkEntry x + uptoBulkEntries r
def uptoBulkEntry {H : Type} : Lit × DataW H → Nat
  | (.string bytes, d) => bytes.length + uptoBulk d + 1
  | (_, d) => uptoBulk d + 1
 end
def uptoSmall : (H : Type) → List (DataW H) → Bool := fun _ ds => decide (uptoBulkAll ds ≤ 1048576)
def OpenSpec.upto (s : _root_.Go.ChangeSpec) : _root_.Go.OpenSpec := { _root_.Go.OpenSpec.ofChange s with cond := some uptoSmall }

/-- 'hypercubelaw04.TruthValues', WHERE WHAT IT READS IS OF BULK AT MOST 1048576: true; the input reads as it did. -/
def truthValuesUptoRow : OpenClaim := { program := "ytfbcgjkagdbckaadoor", sum := "94bc688644eafc2885be203a1e80c19028c1fc8d26e7d3eb5174301ae2e4cb27", func := "hypercube/hypercubelaw04.TruthValues", spec := "truthValues", unfollowed := true, recurses := true, named := ["hypercube/truth.meets", "hypercube/truth.joins", "hypercube/truth.nots", "math/bits.deBruijn32tab"], plainKeys := false, apart := false, laid := [("math/bits.deBruijn32tab", laid_math_bits_deBruijn32tab), ("hypercube/truth.meets", laid_hypercube_truth_meets), ("hypercube/truth.joins", laid_hypercube_truth_joins), ("hypercube/truth.nots", laid_hypercube_truth_nots)], narrowed := true }
def TruthValuesUptoSaid : Prop := truthValuesUptoRow.holds Tryd.pinned (OpenSpec.upto truthValuesSpec)

/-- 'hypercubelaw04.TruthEvals', WHERE WHAT IT READS IS OF BULK AT MOST 1048576: true; the input reads as it did. -/
def truthEvalsUptoRow : OpenClaim := { program := "ytfbcgjkagdbckaadoor", sum := "94bc688644eafc2885be203a1e80c19028c1fc8d26e7d3eb5174301ae2e4cb27", func := "hypercube/hypercubelaw04.TruthEvals", spec := "truthEvals", unfollowed := true, recurses := true, named := ["math/bits.deBruijn32tab", "hypercube/truth.meets", "hypercube/truth.nots", "hypercube/truth.joins"], plainKeys := false, apart := false, laid := [("math/bits.deBruijn32tab", laid_math_bits_deBruijn32tab), ("hypercube/truth.meets", laid_hypercube_truth_meets), ("hypercube/truth.joins", laid_hypercube_truth_joins), ("hypercube/truth.nots", laid_hypercube_truth_nots)], narrowed := true }
def TruthEvalsUptoSaid : Prop := truthEvalsUptoRow.holds Tryd.pinned (OpenSpec.upto truthEvalsSpec)

/-- 'hypercubelaw04.TruthAlgebra', WHERE WHAT IT READS IS OF BULK AT MOST 1048576: true; the input reads as it did. -/
def truthAlgebraUptoRow : OpenClaim := { program := "ytfbcgjkagdbckaadoor", sum := "94bc688644eafc2885be203a1e80c19028c1fc8d26e7d3eb5174301ae2e4cb27", func := "hypercube/hypercubelaw04.TruthAlgebra", spec := "truthAlgebra", unfollowed := true, recurses := true, named := ["math/bits.deBruijn32tab", "hypercube/truth.meets", "hypercube/truth.nots", "hypercube/truth.joins"], plainKeys := false, apart := false, laid := [("math/bits.deBruijn32tab", laid_math_bits_deBruijn32tab), ("hypercube/truth.meets", laid_hypercube_truth_meets), ("hypercube/truth.joins", laid_hypercube_truth_joins), ("hypercube/truth.nots", laid_hypercube_truth_nots)], narrowed := true }
def TruthAlgebraUptoSaid : Prop := truthAlgebraUptoRow.holds Tryd.pinned (OpenSpec.upto truthAlgebraSpec)

/-- 'hypercubelaw04.TruthTells', WHERE WHAT IT READS IS OF BULK AT MOST 1048576: true; the input reads as it did. -/
def truthTellsUptoRow : OpenClaim := { program := "ytfbcgjkagdbckaadoor", sum := "94bc688644eafc2885be203a1e80c19028c1fc8d26e7d3eb5174301ae2e4cb27", func := "hypercube/hypercubelaw04.TruthTells", spec := "truthTells", unfollowed := true, recurses := true, named := ["math/bits.deBruijn32tab", "hypercube/truth.meets", "hypercube/truth.nots", "hypercube/truth.joins"], plainKeys := false, apart := false, laid := [("math/bits.deBruijn32tab", laid_math_bits_deBruijn32tab), ("hypercube/truth.meets", laid_hypercube_truth_meets), ("hypercube/truth.joins", laid_hypercube_truth_joins), ("hypercube/truth.nots", laid_hypercube_truth_nots)], narrowed := true }
def TruthTellsUptoSaid : Prop := truthTellsUptoRow.holds Tryd.pinned (OpenSpec.upto truthTellsSpec)

/-- 'hypercubelaw04.TruthDecides', WHERE WHAT IT READS IS OF BULK AT MOST 1048576: true; the input reads as it did. -/
def truthDecidesUptoRow : OpenClaim := { program := "ytfbcgjkagdbckaadoor", sum := "94bc688644eafc2885be203a1e80c19028c1fc8d26e7d3eb5174301ae2e4cb27", func := "hypercube/hypercubelaw04.TruthDecides", spec := "truthDecides", unfollowed := true, recurses := true, named := ["math/bits.deBruijn32tab", "hypercube/truth.meets", "hypercube/truth.nots", "hypercube/truth.joins"], plainKeys := false, apart := false, laid := [("math/bits.deBruijn32tab", laid_math_bits_deBruijn32tab), ("hypercube/truth.meets", laid_hypercube_truth_meets), ("hypercube/truth.joins", laid_hypercube_truth_joins), ("hypercube/truth.nots", laid_hypercube_truth_nots)], narrowed := true }
def TruthDecidesUptoSaid : Prop := truthDecidesUptoRow.holds Tryd.pinned (OpenSpec.upto truthDecidesSpec)

/-- 'hypercubelaw03.FormulaJoins', WHERE WHAT IT READS IS OF BULK AT MOST 1048576: true; the input reads as it did. -/
def formulaJoinsUptoRow : OpenClaim := { program := "ytfbcgjkagdbckaadoor", sum := "94bc688644eafc2885be203a1e80c19028c1fc8d26e7d3eb5174301ae2e4cb27", func := "hypercube/hypercubelaw03.FormulaJoins", spec := "formulaJoins", unfollowed := true, recurses := true, named := ["math/bits.deBruijn32tab"], plainKeys := false, apart := false, laid := [("math/bits.deBruijn32tab", laid_math_bits_deBruijn32tab)], narrowed := true }
def FormulaJoinsUptoSaid : Prop := formulaJoinsUptoRow.holds Tryd.pinned (OpenSpec.upto formulaJoinsSpec)

/-- 'hypercubelaw03.FormulaLattice', WHERE WHAT IT READS IS OF BULK AT MOST 1048576: true; the input reads as it did. -/
def formulaLatticeUptoRow : OpenClaim := { program := "ytfbcgjkagdbckaadoor", sum := "94bc688644eafc2885be203a1e80c19028c1fc8d26e7d3eb5174301ae2e4cb27", func := "hypercube/hypercubelaw03.FormulaLattice", spec := "formulaLattice", unfollowed := true, recurses := true, named := ["math/bits.deBruijn32tab"], plainKeys := false, apart := false, laid := [("math/bits.deBruijn32tab", laid_math_bits_deBruijn32tab)], narrowed := true }
def FormulaLatticeUptoSaid : Prop := formulaLatticeUptoRow.holds Tryd.pinned (OpenSpec.upto formulaLatticeSpec)

/-- 'hypercubelaw04.TruthMakes', WHERE WHAT IT READS IS OF BULK AT MOST 1048576: true; the input reads as it did. -/
def truthMakesUptoRow : OpenClaim := { program := "ytfbcgjkagdbckaadoor", sum := "94bc688644eafc2885be203a1e80c19028c1fc8d26e7d3eb5174301ae2e4cb27", func := "hypercube/hypercubelaw04.TruthMakes", spec := "truthMakes", unfollowed := true, recurses := true, named := ["math/bits.deBruijn32tab", "hypercube/truth.meets", "hypercube/truth.nots", "hypercube/truth.joins"], plainKeys := false, apart := false, laid := [("math/bits.deBruijn32tab", laid_math_bits_deBruijn32tab), ("hypercube/truth.meets", laid_hypercube_truth_meets), ("hypercube/truth.joins", laid_hypercube_truth_joins), ("hypercube/truth.nots", laid_hypercube_truth_nots)], narrowed := true }
def TruthMakesUptoSaid : Prop := truthMakesUptoRow.holds Tryd.pinned (OpenSpec.upto truthMakesSpec)

/-- 'hypercubelaw05.FaceTruth', WHERE WHAT IT READS IS OF BULK AT MOST 1048576: true; the input reads as it did. -/
def faceTruthUptoRow : OpenClaim := { program := "ytfbcgjkagdbckaadoor", sum := "94bc688644eafc2885be203a1e80c19028c1fc8d26e7d3eb5174301ae2e4cb27", func := "hypercube/hypercubelaw05.FaceTruth", spec := "faceTruth", unfollowed := true, recurses := true, named := ["math/bits.deBruijn32tab", "hypercube/truth.meets", "hypercube/truth.nots", "hypercube/truth.joins"], plainKeys := false, apart := false, laid := [("math/bits.deBruijn32tab", laid_math_bits_deBruijn32tab), ("hypercube/truth.meets", laid_hypercube_truth_meets), ("hypercube/truth.joins", laid_hypercube_truth_joins), ("hypercube/truth.nots", laid_hypercube_truth_nots)], narrowed := true }
def FaceTruthUptoSaid : Prop := faceTruthUptoRow.holds Tryd.pinned (OpenSpec.upto faceTruthSpec)

/-- 'hypercubelaw04.TruthPuts', WHERE WHAT IT READS IS OF BULK AT MOST 1048576: true; the input reads as it did. -/
def truthPutsUptoRow : OpenClaim := { program := "ytfbcgjkagdbckaadoor", sum := "94bc688644eafc2885be203a1e80c19028c1fc8d26e7d3eb5174301ae2e4cb27", func := "hypercube/hypercubelaw04.TruthPuts", spec := "truthPuts", unfollowed := true, recurses := true, named := ["math/bits.deBruijn32tab", "hypercube/truth.meets", "hypercube/truth.nots", "hypercube/truth.joins"], plainKeys := false, apart := false, laid := [("math/bits.deBruijn32tab", laid_math_bits_deBruijn32tab), ("hypercube/truth.meets", laid_hypercube_truth_meets), ("hypercube/truth.joins", laid_hypercube_truth_joins), ("hypercube/truth.nots", laid_hypercube_truth_nots)], narrowed := true }
def TruthPutsUptoSaid : Prop := truthPutsUptoRow.holds Tryd.pinned (OpenSpec.upto truthPutsSpec)

/-- 'hypercubelaw03.FormulaPuts', WHERE WHAT IT READS IS OF BULK AT MOST 1048576: true; the input reads as it did. -/
def formulaPutsUptoRow : OpenClaim := { program := "ytfbcgjkagdbckaadoor", sum := "94bc688644eafc2885be203a1e80c19028c1fc8d26e7d3eb5174301ae2e4cb27", func := "hypercube/hypercubelaw03.FormulaPuts", spec := "formulaPuts", unfollowed := true, recurses := true, named := ["math/bits.deBruijn32tab"], plainKeys := false, apart := false, laid := [("math/bits.deBruijn32tab", laid_math_bits_deBruijn32tab)], narrowed := true }
def FormulaPutsUptoSaid : Prop := formulaPutsUptoRow.holds Tryd.pinned (OpenSpec.upto formulaPutsSpec)

end Rows
end Go.Proofs.YtfbcgjkagdbckaaDoor
