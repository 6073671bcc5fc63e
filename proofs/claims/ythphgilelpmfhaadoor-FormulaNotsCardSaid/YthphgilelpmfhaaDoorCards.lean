/-
  DERIVED. GIVEN WITH THE SEED: THE CARDS: each row of YthphgilelpmfhaaDoorRows.lean that lists a variable, with what it lists TIED to the program's text (the seventh form; the later family's looks); each row that meets fmt, with fmt's text TOLD by the authors' own Lean function (tested against real Go, not proved from fmt's source: count such statements apart). THE CARD IS WHAT COUNTS. Prove the row's statement (the work); the ties are given (YthphgilelpmfhaaDoorTie.lean); close each card by the builder's one call (the guide's Derived/Test/ToyasCard.lean, 'card_holds'). Laid BY PROGRAM, IN A SANDBOX (cutbox-door.mjs). By AI agents, Wed Nov 11 2026. No macro, syntax, notation, axiom, sorry.
-/
import Derived.Test.YthphgilelpmfhaaDoorRows
import GoSem.ClaimSeven
namespace Go.Proofs.YthphgilelpmfhaaDoor
namespace Rows

/-- THE TIED CARD OF 'hypercubelaw03.FormulaNots'. -/
def formulaNotsCard : Claim7 := { stood := { row := formulaNotsRow, standIns := [], harness := (true, "5ca4a096a21ff56b8a8cb2a261f8b23ba54178491642d4821c67e62bdefb8550"), looks := false }, kinds := [], alts := [], laidByText := true, laidKinds := [.data], laidTests := true, laidLooks := .later }
def FormulaNotsCardSaid : Prop := Claim7.holds Tryd.pinned (.plain (OpenSpec.ofChange formulaNotsSpec)) formulaNotsCard

/-- THE TIED CARD OF 'hypercubelaw03.FormulaJoins'. -/
def formulaJoinsCard : Claim7 := { stood := { row := formulaJoinsRow, standIns := [], harness := (true, "5ca4a096a21ff56b8a8cb2a261f8b23ba54178491642d4821c67e62bdefb8550"), looks := false }, kinds := [], alts := [], laidByText := true, laidKinds := [.data], laidTests := true, laidLooks := .later }
def FormulaJoinsCardSaid : Prop := Claim7.holds Tryd.pinned (.plain (OpenSpec.ofChange formulaJoinsSpec)) formulaJoinsCard

/-- THE TIED CARD OF 'hypercubelaw03.FormulaLattice'. -/
def formulaLatticeCard : Claim7 := { stood := { row := formulaLatticeRow, standIns := [], harness := (true, "5ca4a096a21ff56b8a8cb2a261f8b23ba54178491642d4821c67e62bdefb8550"), looks := false }, kinds := [], alts := [], laidByText := true, laidKinds := [.data], laidTests := true, laidLooks := .later }
def FormulaLatticeCardSaid : Prop := Claim7.holds Tryd.pinned (.plain (OpenSpec.ofChange formulaLatticeSpec)) formulaLatticeCard

/-- THE TIED CARD OF 'hypercubelaw03.FormulaMorgan'. -/
def formulaMorganCard : Claim7 := { stood := { row := formulaMorganRow, standIns := [], harness := (true, "5ca4a096a21ff56b8a8cb2a261f8b23ba54178491642d4821c67e62bdefb8550"), looks := false }, kinds := [], alts := [], laidByText := true, laidKinds := [.data], laidTests := true, laidLooks := .later }
def FormulaMorganCardSaid : Prop := Claim7.holds Tryd.pinned (.plain (OpenSpec.ofChange formulaMorganSpec)) formulaMorganCard

/-- THE TIED CARD OF 'hypercubelaw03.FormulaSelf'. -/
def formulaSelfCard : Claim7 := { stood := { row := formulaSelfRow, standIns := [], harness := (true, "5ca4a096a21ff56b8a8cb2a261f8b23ba54178491642d4821c67e62bdefb8550"), looks := false }, kinds := [], alts := [], laidByText := true, laidKinds := [.data], laidTests := true, laidLooks := .later }
def FormulaSelfCardSaid : Prop := Claim7.holds Tryd.pinned (.plain (OpenSpec.ofChange formulaSelfSpec)) formulaSelfCard

/-- THE TIED CARD OF 'hypercubelaw05.FaceMakes'. -/
def faceMakesCard : Claim7 := { stood := { row := faceMakesRow, standIns := [], harness := (true, "5ca4a096a21ff56b8a8cb2a261f8b23ba54178491642d4821c67e62bdefb8550"), looks := false }, kinds := [], alts := [], laidByText := true, laidKinds := [.data], laidTests := true, laidLooks := .later }
def FaceMakesCardSaid : Prop := Claim7.holds Tryd.pinned (.plain (OpenSpec.ofChange faceMakesSpec)) faceMakesCard

/-- THE TIED CARD OF 'hypercubelaw03.FormulaPuts'. -/
def formulaPutsCard : Claim7 := { stood := { row := formulaPutsRow, standIns := [], harness := (true, "5ca4a096a21ff56b8a8cb2a261f8b23ba54178491642d4821c67e62bdefb8550"), looks := false }, kinds := [], alts := [], laidByText := true, laidKinds := [.data], laidTests := true, laidLooks := .later }
def FormulaPutsCardSaid : Prop := Claim7.holds Tryd.pinned (.plain (OpenSpec.ofChange formulaPutsSpec)) formulaPutsCard

/-- THE SECOND FORM's CARD OF 'hypercubelaw03.FormulaNots'. -/
def formulaNotsUptoCard : Claim7 := { stood := { row := formulaNotsUptoRow, standIns := [], harness := (true, "5ca4a096a21ff56b8a8cb2a261f8b23ba54178491642d4821c67e62bdefb8550"), looks := false }, kinds := [], alts := [], laidByText := true, laidKinds := [.data], laidTests := true, laidLooks := .later }
def FormulaNotsUptoCardSaid : Prop := Claim7.holds Tryd.pinned (.plain (OpenSpec.upto formulaNotsSpec)) formulaNotsUptoCard

/-- THE SECOND FORM's CARD OF 'hypercubelaw03.FormulaJoins'. -/
def formulaJoinsUptoCard : Claim7 := { stood := { row := formulaJoinsUptoRow, standIns := [], harness := (true, "5ca4a096a21ff56b8a8cb2a261f8b23ba54178491642d4821c67e62bdefb8550"), looks := false }, kinds := [], alts := [], laidByText := true, laidKinds := [.data], laidTests := true, laidLooks := .later }
def FormulaJoinsUptoCardSaid : Prop := Claim7.holds Tryd.pinned (.plain (OpenSpec.upto formulaJoinsSpec)) formulaJoinsUptoCard

/-- THE SECOND FORM's CARD OF 'hypercubelaw03.FormulaLattice'. -/
def formulaLatticeUptoCard : Claim7 := { stood := { row := formulaLatticeUptoRow, standIns := [], harness := (true, "5ca4a096a21ff56b8a8cb2a261f8b23ba54178491642d4821c67e62bdefb8550"), looks := false }, kinds := [], alts := [], laidByText := true, laidKinds := [.data], laidTests := true, laidLooks := .later }
def FormulaLatticeUptoCardSaid : Prop := Claim7.holds Tryd.pinned (.plain (OpenSpec.upto formulaLatticeSpec)) formulaLatticeUptoCard

/-- THE SECOND FORM's CARD OF 'hypercubelaw03.FormulaMorgan'. -/
def formulaMorganUptoCard : Claim7 := { stood := { row := formulaMorganUptoRow, standIns := [], harness := (true, "5ca4a096a21ff56b8a8cb2a261f8b23ba54178491642d4821c67e62bdefb8550"), looks := false }, kinds := [], alts := [], laidByText := true, laidKinds := [.data], laidTests := true, laidLooks := .later }
def FormulaMorganUptoCardSaid : Prop := Claim7.holds Tryd.pinned (.plain (OpenSpec.upto formulaMorganSpec)) formulaMorganUptoCard

/-- THE SECOND FORM's CARD OF 'hypercubelaw03.FormulaSelf'. -/
def formulaSelfUptoCard : Claim7 := { stood := { row := formulaSelfUptoRow, standIns := [], harness := (true, "5ca4a096a21ff56b8a8cb2a261f8b23ba54178491642d4821c67e62bdefb8550"), looks := false }, kinds := [], alts := [], laidByText := true, laidKinds := [.data], laidTests := true, laidLooks := .later }
def FormulaSelfUptoCardSaid : Prop := Claim7.holds Tryd.pinned (.plain (OpenSpec.upto formulaSelfSpec)) formulaSelfUptoCard

/-- THE SECOND FORM's CARD OF 'hypercubelaw05.FaceMakes'. -/
def faceMakesUptoCard : Claim7 := { stood := { row := faceMakesUptoRow, standIns := [], harness := (true, "5ca4a096a21ff56b8a8cb2a261f8b23ba54178491642d4821c67e62bdefb8550"), looks := false }, kinds := [], alts := [], laidByText := true, laidKinds := [.data], laidTests := true, laidLooks := .later }
def FaceMakesUptoCardSaid : Prop := Claim7.holds Tryd.pinned (.plain (OpenSpec.upto faceMakesSpec)) faceMakesUptoCard

/-- THE SECOND FORM's CARD OF 'hypercubelaw03.FormulaPuts'. -/
def formulaPutsUptoCard : Claim7 := { stood := { row := formulaPutsUptoRow, standIns := [], harness := (true, "5ca4a096a21ff56b8a8cb2a261f8b23ba54178491642d4821c67e62bdefb8550"), looks := false }, kinds := [], alts := [], laidByText := true, laidKinds := [.data], laidTests := true, laidLooks := .later }
def FormulaPutsUptoCardSaid : Prop := Claim7.holds Tryd.pinned (.plain (OpenSpec.upto formulaPutsSpec)) formulaPutsUptoCard
end Rows
end Go.Proofs.YthphgilelpmfhaaDoor
