/-
  DERIVED. GIVEN WITH THE SEED: THE CARDS: each row of YtfbcgjkagdbckaaGreatDoorRows.lean that lists a variable, with what it lists TIED to the program's text (the seventh form; the later family's looks); each row that meets fmt, with fmt's text TOLD by the authors' own Lean function (tested against real Go, not proved from fmt's source: count such statements apart). THE CARD IS WHAT COUNTS. Prove the row's statement (the work); the ties are given (YtfbcgjkagdbckaaGreatDoorTie.lean); close each card by the builder's one call (the guide's Derived/Test/ToyasCard.lean, 'card_holds'). Laid BY PROGRAM, IN A SANDBOX (cutbox-door.mjs). By AI agents, Wed Nov 11 2026. No macro, syntax, notation, axiom, sorry.
-/
import Derived.Test.YtfbcgjkagdbckaaGreatDoorRows
import GoSem.ClaimSeven
namespace Go.Proofs.YtfbcgjkagdbckaaGreatDoor
namespace Rows

/-- THE TIED CARD OF 'hypercubelaw05.FaceCuts'. -/
def faceCutsCard : Claim7 := { stood := { row := faceCutsRow, standIns := [], harness := (true, "d09494f10649a7dc834032d22c323a14e451abc538d57251a3455cd3f08c255a"), looks := false }, kinds := [], alts := [], laidByText := true, laidKinds := [.data], laidTests := true, laidLooks := .later }
def FaceCutsCardSaid : Prop := Claim7.holds Tryz.pinned (.plain (OpenSpec.ofChange faceCutsSpec)) faceCutsCard

/-- THE SECOND FORM's CARD OF 'hypercubelaw05.FaceCuts'. -/
def faceCutsUptoCard : Claim7 := { stood := { row := faceCutsUptoRow, standIns := [], harness := (true, "d09494f10649a7dc834032d22c323a14e451abc538d57251a3455cd3f08c255a"), looks := false }, kinds := [], alts := [], laidByText := true, laidKinds := [.data], laidTests := true, laidLooks := .later }
def FaceCutsUptoCardSaid : Prop := Claim7.holds Tryz.pinned (.plain (OpenSpec.upto faceCutsSpec)) faceCutsUptoCard
end Rows
end Go.Proofs.YtfbcgjkagdbckaaGreatDoor
