/-
  DERIVED. GIVEN WITH THE SEED: THE CARDS: each row of YtahdjajdaggmjaaGreatDoorRows.lean that lists a variable, with what it lists TIED to the program's text (the seventh form; the later family's looks); each row that meets fmt, with fmt's text TOLD by the authors' own Lean function (tested against real Go, not proved from fmt's source: count such statements apart). THE CARD IS WHAT COUNTS. Prove the row's statement (the work); the ties are given (YtahdjajdaggmjaaGreatDoorTie.lean); close each card by the builder's one call (the guide's Derived/Test/ToyasCard.lean, 'card_holds'). Laid BY PROGRAM, IN A SANDBOX (cutbox-door.mjs). By AI agents, Wed Nov 11 2026. No macro, syntax, notation, axiom, sorry.
-/
import Derived.Test.YtahdjajdaggmjaaGreatDoorRows
import GoSem.ClaimSeven
namespace Go.Proofs.YtahdjajdaggmjaaGreatDoor
namespace Rows

/-- THE TIED CARD OF 'hypercubelaw36.PackEncodes'. -/
def packEncodesCard : Claim7 := { stood := { row := packEncodesRow, standIns := [], harness := (true, "875b8556c2f6d9b3dd428d7b84903ee288ab3cfbb63d88de9e33f054c91bd290"), looks := true }, kinds := [], alts := [], laidByText := true, laidKinds := [.data, .data, .pinned], laidTests := true, laidLooks := .later }
def PackEncodesCardSaid : Prop := Claim7.holds Tryz.pinned (.plain (OpenSpec.ofChange packEncodesSpec)) packEncodesCard

/-- THE TIED CARD OF 'hypercubelaw36.PackDecodes'. -/
def packDecodesCard : Claim7 := { stood := { row := packDecodesRow, standIns := [], harness := (true, "875b8556c2f6d9b3dd428d7b84903ee288ab3cfbb63d88de9e33f054c91bd290"), looks := true }, kinds := [], alts := [], laidByText := true, laidKinds := [.data, .data, .pinned], laidTests := true, laidLooks := .later }
def PackDecodesCardSaid : Prop := Claim7.holds Tryz.pinned (.plain (OpenSpec.ofChange packDecodesSpec)) packDecodesCard

/-- THE TIED CARD OF 'hypercubelaw36.PackReads'. -/
def packReadsCard : Claim7 := { stood := { row := packReadsRow, standIns := [], harness := (true, "875b8556c2f6d9b3dd428d7b84903ee288ab3cfbb63d88de9e33f054c91bd290"), looks := true }, kinds := [], alts := [], laidByText := true, laidKinds := [.data, .data, .pinned], laidTests := true, laidLooks := .later }
def PackReadsCardSaid : Prop := Claim7.holds Tryz.pinned (.plain (OpenSpec.ofChange packReadsSpec)) packReadsCard

/-- THE SECOND FORM's CARD OF 'hypercubelaw36.PackEncodes'. -/
def packEncodesUptoCard : Claim7 := { stood := { row := packEncodesUptoRow, standIns := [], harness := (true, "875b8556c2f6d9b3dd428d7b84903ee288ab3cfbb63d88de9e33f054c91bd290"), looks := true }, kinds := [], alts := [], laidByText := true, laidKinds := [.data, .data, .pinned], laidTests := true, laidLooks := .later }
def PackEncodesUptoCardSaid : Prop := Claim7.holds Tryz.pinned (.plain (OpenSpec.upto packEncodesSpec)) packEncodesUptoCard

/-- THE SECOND FORM's CARD OF 'hypercubelaw36.PackDecodes'. -/
def packDecodesUptoCard : Claim7 := { stood := { row := packDecodesUptoRow, standIns := [], harness := (true, "875b8556c2f6d9b3dd428d7b84903ee288ab3cfbb63d88de9e33f054c91bd290"), looks := true }, kinds := [], alts := [], laidByText := true, laidKinds := [.data, .data, .pinned], laidTests := true, laidLooks := .later }
def PackDecodesUptoCardSaid : Prop := Claim7.holds Tryz.pinned (.plain (OpenSpec.upto packDecodesSpec)) packDecodesUptoCard

/-- THE SECOND FORM's CARD OF 'hypercubelaw36.PackReads'. -/
def packReadsUptoCard : Claim7 := { stood := { row := packReadsUptoRow, standIns := [], harness := (true, "875b8556c2f6d9b3dd428d7b84903ee288ab3cfbb63d88de9e33f054c91bd290"), looks := true }, kinds := [], alts := [], laidByText := true, laidKinds := [.data, .data, .pinned], laidTests := true, laidLooks := .later }
def PackReadsUptoCardSaid : Prop := Claim7.holds Tryz.pinned (.plain (OpenSpec.upto packReadsSpec)) packReadsUptoCard
end Rows
end Go.Proofs.YtahdjajdaggmjaaGreatDoor
