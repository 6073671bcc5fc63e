/-
  DERIVED. GIVEN WITH THE SEED: THE CARDS: each row of YtidpieakofhmiaaDoorRows.lean that lists a variable, with what it lists TIED to the program's text (the seventh form; the later family's looks); each row that meets fmt, with fmt's text TOLD by the authors' own Lean function (tested against real Go, not proved from fmt's source: count such statements apart). THE CARD IS WHAT COUNTS. Prove the row's statement (the work); the ties are given (YtidpieakofhmiaaDoorTie.lean); close each card by the builder's one call (the guide's Derived/Test/ToyasCard.lean, 'card_holds'). Laid BY PROGRAM, IN A SANDBOX (cutbox-door.mjs). By AI agents, Wed Nov 11 2026. No macro, syntax, notation, axiom, sorry.
-/
import Derived.Test.YtidpieakofhmiaaDoorRows
import GoSem.ClaimSeven
namespace Go.Proofs.YtidpieakofhmiaaDoor
namespace Rows

/-- THE TIED CARD OF 'hypercubelaw01.MaskLifts'. -/
def maskLiftsCard : Claim7 := { stood := { row := maskLiftsRow, standIns := [], harness := (true, "b125532b9fa08f9c6cdc61691bf4f86b71c9a9bff484aa290f6842f24d40169c"), looks := false }, kinds := [], alts := [], laidByText := true, laidKinds := [.data], laidTests := true, laidLooks := .later }
def MaskLiftsCardSaid : Prop := Claim7.holds Tryd.pinned (.plain (OpenSpec.ofChange maskLiftsSpec)) maskLiftsCard

/-- THE TIED CARD OF 'hypercubelaw01.MaskDrops'. -/
def maskDropsCard : Claim7 := { stood := { row := maskDropsRow, standIns := [], harness := (true, "b125532b9fa08f9c6cdc61691bf4f86b71c9a9bff484aa290f6842f24d40169c"), looks := false }, kinds := [], alts := [], laidByText := true, laidKinds := [.data], laidTests := true, laidLooks := .later }
def MaskDropsCardSaid : Prop := Claim7.holds Tryd.pinned (.plain (OpenSpec.ofChange maskDropsSpec)) maskDropsCard

/-- THE TIED CARD OF 'hypercubelaw01.MaskLists'. -/
def maskListsCard : Claim7 := { stood := { row := maskListsRow, standIns := [], harness := (true, "b125532b9fa08f9c6cdc61691bf4f86b71c9a9bff484aa290f6842f24d40169c"), looks := false }, kinds := [], alts := [], laidByText := true, laidKinds := [.data], laidTests := true, laidLooks := .later }
def MaskListsCardSaid : Prop := Claim7.holds Tryd.pinned (.plain (OpenSpec.ofChange maskListsSpec)) maskListsCard

/-- THE TIED CARD OF 'hypercubelaw01.MaskAdds'. -/
def maskAddsCard : Claim7 := { stood := { row := maskAddsRow, standIns := [], harness := (true, "b125532b9fa08f9c6cdc61691bf4f86b71c9a9bff484aa290f6842f24d40169c"), looks := false }, kinds := [], alts := [], laidByText := true, laidKinds := [.data], laidTests := true, laidLooks := .later }
def MaskAddsCardSaid : Prop := Claim7.holds Tryd.pinned (.plain (OpenSpec.ofChange maskAddsSpec)) maskAddsCard

/-- THE TIED CARD OF 'hypercubelaw01.MaskBack'. -/
def maskBackCard : Claim7 := { stood := { row := maskBackRow, standIns := [], harness := (true, "b125532b9fa08f9c6cdc61691bf4f86b71c9a9bff484aa290f6842f24d40169c"), looks := false }, kinds := [], alts := [], laidByText := true, laidKinds := [.data], laidTests := true, laidLooks := .later }
def MaskBackCardSaid : Prop := Claim7.holds Tryd.pinned (.plain (OpenSpec.ofChange maskBackSpec)) maskBackCard

/-- THE TIED CARD OF 'hypercubelaw01.MaskAsks'. -/
def maskAsksCard : Claim7 := { stood := { row := maskAsksRow, standIns := [], harness := (true, "b125532b9fa08f9c6cdc61691bf4f86b71c9a9bff484aa290f6842f24d40169c"), looks := false }, kinds := [], alts := [], laidByText := true, laidKinds := [.data], laidTests := true, laidLooks := .later }
def MaskAsksCardSaid : Prop := Claim7.holds Tryd.pinned (.plain (OpenSpec.ofChange maskAsksSpec)) maskAsksCard

/-- THE TIED CARD OF 'hypercubelaw01.MaskSets'. -/
def maskSetsCard : Claim7 := { stood := { row := maskSetsRow, standIns := [], harness := (true, "b125532b9fa08f9c6cdc61691bf4f86b71c9a9bff484aa290f6842f24d40169c"), looks := false }, kinds := [], alts := [], laidByText := true, laidKinds := [.data], laidTests := true, laidLooks := .later }
def MaskSetsCardSaid : Prop := Claim7.holds Tryd.pinned (.plain (OpenSpec.ofChange maskSetsSpec)) maskSetsCard

/-- THE SECOND FORM's CARD OF 'hypercubelaw01.MaskLifts'. -/
def maskLiftsUptoCard : Claim7 := { stood := { row := maskLiftsUptoRow, standIns := [], harness := (true, "b125532b9fa08f9c6cdc61691bf4f86b71c9a9bff484aa290f6842f24d40169c"), looks := false }, kinds := [], alts := [], laidByText := true, laidKinds := [.data], laidTests := true, laidLooks := .later }
def MaskLiftsUptoCardSaid : Prop := Claim7.holds Tryd.pinned (.plain (OpenSpec.upto maskLiftsSpec)) maskLiftsUptoCard

/-- THE SECOND FORM's CARD OF 'hypercubelaw01.MaskDrops'. -/
def maskDropsUptoCard : Claim7 := { stood := { row := maskDropsUptoRow, standIns := [], harness := (true, "b125532b9fa08f9c6cdc61691bf4f86b71c9a9bff484aa290f6842f24d40169c"), looks := false }, kinds := [], alts := [], laidByText := true, laidKinds := [.data], laidTests := true, laidLooks := .later }
def MaskDropsUptoCardSaid : Prop := Claim7.holds Tryd.pinned (.plain (OpenSpec.upto maskDropsSpec)) maskDropsUptoCard

/-- THE SECOND FORM's CARD OF 'hypercubelaw01.MaskLists'. -/
def maskListsUptoCard : Claim7 := { stood := { row := maskListsUptoRow, standIns := [], harness := (true, "b125532b9fa08f9c6cdc61691bf4f86b71c9a9bff484aa290f6842f24d40169c"), looks := false }, kinds := [], alts := [], laidByText := true, laidKinds := [.data], laidTests := true, laidLooks := .later }
def MaskListsUptoCardSaid : Prop := Claim7.holds Tryd.pinned (.plain (OpenSpec.upto maskListsSpec)) maskListsUptoCard

/-- THE SECOND FORM's CARD OF 'hypercubelaw01.MaskAdds'. -/
def maskAddsUptoCard : Claim7 := { stood := { row := maskAddsUptoRow, standIns := [], harness := (true, "b125532b9fa08f9c6cdc61691bf4f86b71c9a9bff484aa290f6842f24d40169c"), looks := false }, kinds := [], alts := [], laidByText := true, laidKinds := [.data], laidTests := true, laidLooks := .later }
def MaskAddsUptoCardSaid : Prop := Claim7.holds Tryd.pinned (.plain (OpenSpec.upto maskAddsSpec)) maskAddsUptoCard

/-- THE SECOND FORM's CARD OF 'hypercubelaw01.MaskBack'. -/
def maskBackUptoCard : Claim7 := { stood := { row := maskBackUptoRow, standIns := [], harness := (true, "b125532b9fa08f9c6cdc61691bf4f86b71c9a9bff484aa290f6842f24d40169c"), looks := false }, kinds := [], alts := [], laidByText := true, laidKinds := [.data], laidTests := true, laidLooks := .later }
def MaskBackUptoCardSaid : Prop := Claim7.holds Tryd.pinned (.plain (OpenSpec.upto maskBackSpec)) maskBackUptoCard

/-- THE SECOND FORM's CARD OF 'hypercubelaw01.MaskAsks'. -/
def maskAsksUptoCard : Claim7 := { stood := { row := maskAsksUptoRow, standIns := [], harness := (true, "b125532b9fa08f9c6cdc61691bf4f86b71c9a9bff484aa290f6842f24d40169c"), looks := false }, kinds := [], alts := [], laidByText := true, laidKinds := [.data], laidTests := true, laidLooks := .later }
def MaskAsksUptoCardSaid : Prop := Claim7.holds Tryd.pinned (.plain (OpenSpec.upto maskAsksSpec)) maskAsksUptoCard

/-- THE SECOND FORM's CARD OF 'hypercubelaw01.MaskSets'. -/
def maskSetsUptoCard : Claim7 := { stood := { row := maskSetsUptoRow, standIns := [], harness := (true, "b125532b9fa08f9c6cdc61691bf4f86b71c9a9bff484aa290f6842f24d40169c"), looks := false }, kinds := [], alts := [], laidByText := true, laidKinds := [.data], laidTests := true, laidLooks := .later }
def MaskSetsUptoCardSaid : Prop := Claim7.holds Tryd.pinned (.plain (OpenSpec.upto maskSetsSpec)) maskSetsUptoCard
end Rows
end Go.Proofs.YtidpieakofhmiaaDoor
