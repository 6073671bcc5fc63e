/-
  DERIVED. GIVEN WITH THE SEED: THE CARDS: each row of YtahdjajdaggmjaaDoorRows.lean that lists a variable, with what it lists TIED to the program's text (the seventh form; the later family's looks); each row that meets fmt, with fmt's text TOLD by the authors' own Lean function (tested against real Go, not proved from fmt's source: count such statements apart). THE CARD IS WHAT COUNTS. Prove the row's statement (the work); the ties are given (YtahdjajdaggmjaaDoorTie.lean); close each card by the builder's one call (the guide's Derived/Test/ToyasCard.lean, 'card_holds'). Laid BY PROGRAM, IN A SANDBOX (cutbox-door.mjs). By AI agents, Wed Nov 11 2026. No macro, syntax, notation, axiom, sorry.
-/
import Derived.Test.YtahdjajdaggmjaaDoorRows
import GoSem.ClaimSeven
namespace Go.Proofs.YtahdjajdaggmjaaDoor
namespace Rows

/-- THE TIED CARD OF 'hypercubelaw36.PackBack'. -/
def packBackCard : Claim7 := { stood := { row := packBackRow, standIns := [], harness := (true, "5f126eaa969d81ceb99cd57a81a20ec4304dae4bb8e4008aef580d64306e6971"), looks := true }, kinds := [], alts := [], laidByText := true, laidKinds := [.data, .data, .pinned], laidTests := true, laidLooks := .later }
def PackBackCardSaid : Prop := Claim7.holds Tryd.pinned (.plain (OpenSpec.ofChange packBackSpec)) packBackCard

/-- THE TIED CARD OF 'hypercubelaw36.PackOnly'. -/
def packOnlyCard : Claim7 := { stood := { row := packOnlyRow, standIns := [], harness := (true, "5f126eaa969d81ceb99cd57a81a20ec4304dae4bb8e4008aef580d64306e6971"), looks := true }, kinds := [], alts := [], laidByText := true, laidKinds := [.data, .data, .pinned], laidTests := true, laidLooks := .later }
def PackOnlyCardSaid : Prop := Claim7.holds Tryd.pinned (.plain (OpenSpec.ofChange packOnlySpec)) packOnlyCard

/-- THE TIED CARD OF 'hypercubelaw36.PackOne'. -/
def packOneCard : Claim7 := { stood := { row := packOneRow, standIns := [], harness := (true, "5f126eaa969d81ceb99cd57a81a20ec4304dae4bb8e4008aef580d64306e6971"), looks := true }, kinds := [], alts := [], laidByText := true, laidKinds := [.data, .data, .pinned], laidTests := true, laidLooks := .later }
def PackOneCardSaid : Prop := Claim7.holds Tryd.pinned (.plain (OpenSpec.ofChange packOneSpec)) packOneCard

/-- THE SECOND FORM's CARD OF 'hypercubelaw36.PackBack'. -/
def packBackUptoCard : Claim7 := { stood := { row := packBackUptoRow, standIns := [], harness := (true, "5f126eaa969d81ceb99cd57a81a20ec4304dae4bb8e4008aef580d64306e6971"), looks := true }, kinds := [], alts := [], laidByText := true, laidKinds := [.data, .data, .pinned], laidTests := true, laidLooks := .later }
def PackBackUptoCardSaid : Prop := Claim7.holds Tryd.pinned (.plain (OpenSpec.upto packBackSpec)) packBackUptoCard

/-- THE SECOND FORM's CARD OF 'hypercubelaw36.PackOnly'. -/
def packOnlyUptoCard : Claim7 := { stood := { row := packOnlyUptoRow, standIns := [], harness := (true, "5f126eaa969d81ceb99cd57a81a20ec4304dae4bb8e4008aef580d64306e6971"), looks := true }, kinds := [], alts := [], laidByText := true, laidKinds := [.data, .data, .pinned], laidTests := true, laidLooks := .later }
def PackOnlyUptoCardSaid : Prop := Claim7.holds Tryd.pinned (.plain (OpenSpec.upto packOnlySpec)) packOnlyUptoCard

/-- THE SECOND FORM's CARD OF 'hypercubelaw36.PackOne'. -/
def packOneUptoCard : Claim7 := { stood := { row := packOneUptoRow, standIns := [], harness := (true, "5f126eaa969d81ceb99cd57a81a20ec4304dae4bb8e4008aef580d64306e6971"), looks := true }, kinds := [], alts := [], laidByText := true, laidKinds := [.data, .data, .pinned], laidTests := true, laidLooks := .later }
def PackOneUptoCardSaid : Prop := Claim7.holds Tryd.pinned (.plain (OpenSpec.upto packOneSpec)) packOneUptoCard
end Rows
end Go.Proofs.YtahdjajdaggmjaaDoor
