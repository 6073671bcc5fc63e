/-
  DERIVED. GIVEN WITH THE SEED: THE CARDS: each row of YtfbcgjkagdbckaaDoorRows.lean that lists a variable, with what it lists TIED to the program's text (the seventh form; the later family's looks); each row that meets fmt, with fmt's text TOLD by the authors' own Lean function (tested against real Go, not proved from fmt's source: count such statements apart). THE CARD IS WHAT COUNTS. Prove the row's statement (the work); the ties are given (YtfbcgjkagdbckaaDoorTie.lean); close each card by the builder's one call (the guide's Derived/Test/ToyasCard.lean, 'card_holds'). Laid BY PROGRAM, IN A SANDBOX (cutbox-door.mjs). By AI agents, Wed Nov 11 2026. No macro, syntax, notation, axiom, sorry.
-/
import Derived.Test.YtfbcgjkagdbckaaDoorRows
import GoSem.ClaimSeven
namespace Go.Proofs.YtfbcgjkagdbckaaDoor
namespace Rows

/-- THE TIED CARD OF 'hypercubelaw04.TruthValues'. -/
def truthValuesCard : Claim7 := { stood := { row := truthValuesRow, standIns := [], harness := (true, "7e6ca6889b421a5590b8658a54f5e4982e8c215613a1c596c070963bbbdc0ff9"), looks := false }, kinds := [], alts := [], laidByText := true, laidKinds := [.data, .data, .data, .data], laidTests := true, laidLooks := .later }
def TruthValuesCardSaid : Prop := Claim7.holds Tryd.pinned (.plain (OpenSpec.ofChange truthValuesSpec)) truthValuesCard

/-- THE TIED CARD OF 'hypercubelaw04.TruthEvals'. -/
def truthEvalsCard : Claim7 := { stood := { row := truthEvalsRow, standIns := [], harness := (true, "7e6ca6889b421a5590b8658a54f5e4982e8c215613a1c596c070963bbbdc0ff9"), looks := false }, kinds := [], alts := [], laidByText := true, laidKinds := [.data, .data, .data, .data], laidTests := true, laidLooks := .later }
def TruthEvalsCardSaid : Prop := Claim7.holds Tryd.pinned (.plain (OpenSpec.ofChange truthEvalsSpec)) truthEvalsCard

/-- THE TIED CARD OF 'hypercubelaw04.TruthAlgebra'. -/
def truthAlgebraCard : Claim7 := { stood := { row := truthAlgebraRow, standIns := [], harness := (true, "7e6ca6889b421a5590b8658a54f5e4982e8c215613a1c596c070963bbbdc0ff9"), looks := false }, kinds := [], alts := [], laidByText := true, laidKinds := [.data, .data, .data, .data], laidTests := true, laidLooks := .later }
def TruthAlgebraCardSaid : Prop := Claim7.holds Tryd.pinned (.plain (OpenSpec.ofChange truthAlgebraSpec)) truthAlgebraCard

/-- THE TIED CARD OF 'hypercubelaw04.TruthTells'. -/
def truthTellsCard : Claim7 := { stood := { row := truthTellsRow, standIns := [], harness := (true, "7e6ca6889b421a5590b8658a54f5e4982e8c215613a1c596c070963bbbdc0ff9"), looks := false }, kinds := [], alts := [], laidByText := true, laidKinds := [.data, .data, .data, .data], laidTests := true, laidLooks := .later }
def TruthTellsCardSaid : Prop := Claim7.holds Tryd.pinned (.plain (OpenSpec.ofChange truthTellsSpec)) truthTellsCard

/-- THE TIED CARD OF 'hypercubelaw04.TruthDecides'. -/
def truthDecidesCard : Claim7 := { stood := { row := truthDecidesRow, standIns := [], harness := (true, "7e6ca6889b421a5590b8658a54f5e4982e8c215613a1c596c070963bbbdc0ff9"), looks := false }, kinds := [], alts := [], laidByText := true, laidKinds := [.data, .data, .data, .data], laidTests := true, laidLooks := .later }
def TruthDecidesCardSaid : Prop := Claim7.holds Tryd.pinned (.plain (OpenSpec.ofChange truthDecidesSpec)) truthDecidesCard

/-- THE TIED CARD OF 'hypercubelaw03.FormulaJoins'. -/
def formulaJoinsCard : Claim7 := { stood := { row := formulaJoinsRow, standIns := [], harness := (true, "7e6ca6889b421a5590b8658a54f5e4982e8c215613a1c596c070963bbbdc0ff9"), looks := false }, kinds := [], alts := [], laidByText := true, laidKinds := [.data], laidTests := true, laidLooks := .later }
def FormulaJoinsCardSaid : Prop := Claim7.holds Tryd.pinned (.plain (OpenSpec.ofChange formulaJoinsSpec)) formulaJoinsCard

/-- THE TIED CARD OF 'hypercubelaw03.FormulaLattice'. -/
def formulaLatticeCard : Claim7 := { stood := { row := formulaLatticeRow, standIns := [], harness := (true, "7e6ca6889b421a5590b8658a54f5e4982e8c215613a1c596c070963bbbdc0ff9"), looks := false }, kinds := [], alts := [], laidByText := true, laidKinds := [.data], laidTests := true, laidLooks := .later }
def FormulaLatticeCardSaid : Prop := Claim7.holds Tryd.pinned (.plain (OpenSpec.ofChange formulaLatticeSpec)) formulaLatticeCard

/-- THE TIED CARD OF 'hypercubelaw04.TruthMakes'. -/
def truthMakesCard : Claim7 := { stood := { row := truthMakesRow, standIns := [], harness := (true, "7e6ca6889b421a5590b8658a54f5e4982e8c215613a1c596c070963bbbdc0ff9"), looks := false }, kinds := [], alts := [], laidByText := true, laidKinds := [.data, .data, .data, .data], laidTests := true, laidLooks := .later }
def TruthMakesCardSaid : Prop := Claim7.holds Tryd.pinned (.plain (OpenSpec.ofChange truthMakesSpec)) truthMakesCard

/-- THE TIED CARD OF 'hypercubelaw05.FaceTruth'. -/
def faceTruthCard : Claim7 := { stood := { row := faceTruthRow, standIns := [], harness := (true, "7e6ca6889b421a5590b8658a54f5e4982e8c215613a1c596c070963bbbdc0ff9"), looks := false }, kinds := [], alts := [], laidByText := true, laidKinds := [.data, .data, .data, .data], laidTests := true, laidLooks := .later }
def FaceTruthCardSaid : Prop := Claim7.holds Tryd.pinned (.plain (OpenSpec.ofChange faceTruthSpec)) faceTruthCard

/-- THE TIED CARD OF 'hypercubelaw04.TruthPuts'. -/
def truthPutsCard : Claim7 := { stood := { row := truthPutsRow, standIns := [], harness := (true, "7e6ca6889b421a5590b8658a54f5e4982e8c215613a1c596c070963bbbdc0ff9"), looks := false }, kinds := [], alts := [], laidByText := true, laidKinds := [.data, .data, .data, .data], laidTests := true, laidLooks := .later }
def TruthPutsCardSaid : Prop := Claim7.holds Tryd.pinned (.plain (OpenSpec.ofChange truthPutsSpec)) truthPutsCard

/-- THE TIED CARD OF 'hypercubelaw03.FormulaPuts'. -/
def formulaPutsCard : Claim7 := { stood := { row := formulaPutsRow, standIns := [], harness := (true, "7e6ca6889b421a5590b8658a54f5e4982e8c215613a1c596c070963bbbdc0ff9"), looks := false }, kinds := [], alts := [], laidByText := true, laidKinds := [.data], laidTests := true, laidLooks := .later }
def FormulaPutsCardSaid : Prop := Claim7.holds Tryd.pinned (.plain (OpenSpec.ofChange formulaPutsSpec)) formulaPutsCard

/-- THE SECOND FORM's CARD OF 'hypercubelaw04.TruthValues'. -/
def truthValuesUptoCard : Claim7 := { stood := { row := truthValuesUptoRow, standIns := [], harness := (true, "7e6ca6889b421a5590b8658a54f5e4982e8c215613a1c596c070963bbbdc0ff9"), looks := false }, kinds := [], alts := [], laidByText := true, laidKinds := [.data, .data, .data, .data], laidTests := true, laidLooks := .later }
def TruthValuesUptoCardSaid : Prop := Claim7.holds Tryd.pinned (.plain (OpenSpec.upto truthValuesSpec)) truthValuesUptoCard

/-- THE SECOND FORM's CARD OF 'hypercubelaw04.TruthEvals'. -/
def truthEvalsUptoCard : Claim7 := { stood := { row := truthEvalsUptoRow, standIns := [], harness := (true, "7e6ca6889b421a5590b8658a54f5e4982e8c215613a1c596c070963bbbdc0ff9"), looks := false }, kinds := [], alts := [], laidByText := true, laidKinds := [.data, .data, .data, .data], laidTests := true, laidLooks := .later }
def TruthEvalsUptoCardSaid : Prop := Claim7.holds Tryd.pinned (.plain (OpenSpec.upto truthEvalsSpec)) truthEvalsUptoCard

/-- THE SECOND FORM's CARD OF 'hypercubelaw04.TruthAlgebra'. -/
def truthAlgebraUptoCard : Claim7 := { stood := { row := truthAlgebraUptoRow, standIns := [], harness := (true, "7e6ca6889b421a5590b8658a54f5e4982e8c215613a1c596c070963bbbdc0ff9"), looks := false }, kinds := [], alts := [], laidByText := true, laidKinds := [.data, .data, .data, .data], laidTests := true, laidLooks := .later }
def TruthAlgebraUptoCardSaid : Prop := Claim7.holds Tryd.pinned (.plain (OpenSpec.upto truthAlgebraSpec)) truthAlgebraUptoCard

/-- THE SECOND FORM's CARD OF 'hypercubelaw04.TruthTells'. -/
def truthTellsUptoCard : Claim7 := { stood := { row := truthTellsUptoRow, standIns := [], harness := (true, "7e6ca6889b421a5590b8658a54f5e4982e8c215613a1c596c070963bbbdc0ff9"), looks := false }, kinds := [], alts := [], laidByText := true, laidKinds := [.data, .data, .data, .data], laidTests := true, laidLooks := .later }
def TruthTellsUptoCardSaid : Prop := Claim7.holds Tryd.pinned (.plain (OpenSpec.upto truthTellsSpec)) truthTellsUptoCard

/-- THE SECOND FORM's CARD OF 'hypercubelaw04.TruthDecides'. -/
def truthDecidesUptoCard : Claim7 := { stood := { row := truthDecidesUptoRow, standIns := [], harness := (true, "7e6ca6889b421a5590b8658a54f5e4982e8c215613a1c596c070963bbbdc0ff9"), looks := false }, kinds := [], alts := [], laidByText := true, laidKinds := [.data, .data, .data, .data], laidTests := true, laidLooks := .later }
def TruthDecidesUptoCardSaid : Prop := Claim7.holds Tryd.pinned (.plain (OpenSpec.upto truthDecidesSpec)) truthDecidesUptoCard

/-- THE SECOND FORM's CARD OF 'hypercubelaw03.FormulaJoins'. -/
def formulaJoinsUptoCard : Claim7 := { stood := { row := formulaJoinsUptoRow, standIns := [], harness := (true, "7e6ca6889b421a5590b8658a54f5e4982e8c215613a1c596c070963bbbdc0ff9"), looks := false }, kinds := [], alts := [], laidByText := true, laidKinds := [.data], laidTests := true, laidLooks := .later }
def FormulaJoinsUptoCardSaid : Prop := Claim7.holds Tryd.pinned (.plain (OpenSpec.upto formulaJoinsSpec)) formulaJoinsUptoCard

/-- THE SECOND FORM's CARD OF 'hypercubelaw03.FormulaLattice'. -/
def formulaLatticeUptoCard : Claim7 := { stood := { row := formulaLatticeUptoRow, standIns := [], harness := (true, "7e6ca6889b421a5590b8658a54f5e4982e8c215613a1c596c070963bbbdc0ff9"), looks := false }, kinds := [], alts := [], laidByText := true, laidKinds := [.data], laidTests := true, laidLooks := .later }
def FormulaLatticeUptoCardSaid : Prop := Claim7.holds Tryd.pinned (.plain (OpenSpec.upto formulaLatticeSpec)) formulaLatticeUptoCard

/-- THE SECOND FORM's CARD OF 'hypercubelaw04.TruthMakes'. -/
def truthMakesUptoCard : Claim7 := { stood := { row := truthMakesUptoRow, standIns := [], harness := (true, "7e6ca6889b421a5590b8658a54f5e4982e8c215613a1c596c070963bbbdc0ff9"), looks := false }, kinds := [], alts := [], laidByText := true, laidKinds := [.data, .data, .data, .data], laidTests := true, laidLooks := .later }
def TruthMakesUptoCardSaid : Prop := Claim7.holds Tryd.pinned (.plain (OpenSpec.upto truthMakesSpec)) truthMakesUptoCard

/-- THE SECOND FORM's CARD OF 'hypercubelaw05.FaceTruth'. -/
def faceTruthUptoCard : Claim7 := { stood := { row := faceTruthUptoRow, standIns := [], harness := (true, "7e6ca6889b421a5590b8658a54f5e4982e8c215613a1c596c070963bbbdc0ff9"), looks := false }, kinds := [], alts := [], laidByText := true, laidKinds := [.data, .data, .data, .data], laidTests := true, laidLooks := .later }
def FaceTruthUptoCardSaid : Prop := Claim7.holds Tryd.pinned (.plain (OpenSpec.upto faceTruthSpec)) faceTruthUptoCard

/-- THE SECOND FORM's CARD OF 'hypercubelaw04.TruthPuts'. -/
def truthPutsUptoCard : Claim7 := { stood := { row := truthPutsUptoRow, standIns := [], harness := (true, "7e6ca6889b421a5590b8658a54f5e4982e8c215613a1c596c070963bbbdc0ff9"), looks := false }, kinds := [], alts := [], laidByText := true, laidKinds := [.data, .data, .data, .data], laidTests := true, laidLooks := .later }
def TruthPutsUptoCardSaid : Prop := Claim7.holds Tryd.pinned (.plain (OpenSpec.upto truthPutsSpec)) truthPutsUptoCard

/-- THE SECOND FORM's CARD OF 'hypercubelaw03.FormulaPuts'. -/
def formulaPutsUptoCard : Claim7 := { stood := { row := formulaPutsUptoRow, standIns := [], harness := (true, "7e6ca6889b421a5590b8658a54f5e4982e8c215613a1c596c070963bbbdc0ff9"), looks := false }, kinds := [], alts := [], laidByText := true, laidKinds := [.data], laidTests := true, laidLooks := .later }
def FormulaPutsUptoCardSaid : Prop := Claim7.holds Tryd.pinned (.plain (OpenSpec.upto formulaPutsSpec)) formulaPutsUptoCard
end Rows
end Go.Proofs.YtfbcgjkagdbckaaDoor
