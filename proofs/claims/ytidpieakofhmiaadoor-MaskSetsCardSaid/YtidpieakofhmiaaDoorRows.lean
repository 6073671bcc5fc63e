/-
  NARROWER THAN 'FOR EVERY INPUT', by the rows' own cells (each row's printed sentence says how): MaskLifts: laid · MaskDrops: laid · MaskLists: laid · MaskAdds: laid · MaskBack: laid · MaskAsks: laid · MaskSets: laid.
  DERIVED. THE GIVEN ROWS OF THIS SEAT. 7 by the template 'for every input the law returns true; each argument reads behind the call as it read before'; 0 by the template 'total and deterministic' (their statements: YtidpieakofhmiaaDoorTotals.lean).
  GIVEN WITH THE SEED: the statements are not yours to turn. If you find one false, say at which input.
  Laid BY PROGRAM, IN A SANDBOX (cutbox-rows.mjs): the forced cells as the released guide's own fill.sh prints them over the translation 59ab7d549c348a7d… (all of the seat's roots in one cut). By AI agents, Wed Nov 11 2026. No macro, syntax, notation, axiom, sorry.
-/
import Derived.Test.YtidpieakofhmiaaDoorChecked
import GoSem.Claim
import GoSem.ClaimJoined
import GoSem.ClaimMapViews
import Derived.JoinedTies
import Derived.KernelRfl
namespace Go.Proofs.YtidpieakofhmiaaDoor
/- THE CELL 'sum', in the pinned program and in every row, IS THE sha256 OF THE DUMP (.gsa) THAT YtidpieakofhmiaaDoorProg.lean LOADS. Nothing in Lean hashes anything: it is a label: what it is worth is what the hold of that sum in a sandbox is worth. -/
noncomputable def Tryd.pinned : Pinned := { name := "ytidpieakofhmiaadoor", sum := "59ab7d549c348a7d02b5875cde98724a96f3639412d523c653c3caf8a5235c6a", checked := Tryd.checked }
namespace Rows
def none {H : Type} : Left H := { results := [], args := [] }

/- WHAT THE LISTED PACKAGE-LEVEL VARIABLES READ AS WHEN THE CALL BEGINS. Each datum BY PROGRAM (the guide's laid-datum.mjs) off the statement by which the dump's own 'gosem.cut.vars' lays the variable. In a bare row this is a premise. The card (YtidpieakofhmiaaDoorCards.lean) ties it to the program's text. -/
def laid_math_bits_deBruijn32tab {H : Type} : DataW H := .agg [.lit (.int .u8 0), .lit (.int .u8 1), .lit (.int .u8 28), .lit (.int .u8 2), .lit (.int .u8 29), .lit (.int .u8 14), .lit (.int .u8 24), .lit (.int .u8 3), .lit (.int .u8 30), .lit (.int .u8 22), .lit (.int .u8 20), .lit (.int .u8 15), .lit (.int .u8 25), .lit (.int .u8 17), .lit (.int .u8 4), .lit (.int .u8 8), .lit (.int .u8 31), .lit (.int .u8 27), .lit (.int .u8 13), .lit (.int .u8 23), .lit (.int .u8 21), .lit (.int .u8 19), .lit (.int .u8 16), .lit (.int .u8 7), .lit (.int .u8 26), .lit (.int .u8 12), .lit (.int .u8 18), .lit (.int .u8 6), .lit (.int .u8 11), .lit (.int .u8 5), .lit (.int .u8 10), .lit (.int .u8 9)]

/-- 'hypercubelaw01.MaskLifts': WHATEVER THE INPUT: true; the input reads as it did. -/
def maskLiftsSpec : ChangeSpec := { name := "maskLifts", fn := fun _ => fun
  | [d1, d2, d3] => { results := [.lit (.bool true)], args := [d1, d2, d3] }
  | _ => none }
def maskLiftsRow : OpenClaim := { program := "ytidpieakofhmiaadoor", sum := "59ab7d549c348a7d02b5875cde98724a96f3639412d523c653c3caf8a5235c6a", func := "hypercube/hypercubelaw01.MaskLifts", spec := "maskLifts", unfollowed := true, recurses := true, named := ["math/bits.deBruijn32tab"], apart := false, laid := [("math/bits.deBruijn32tab", laid_math_bits_deBruijn32tab)] }
def MaskLiftsSaid : Prop := maskLiftsRow.holds Tryd.pinned (OpenSpec.ofChange maskLiftsSpec)

/-- ITS FALSE NEIGHBOUR: 'it returns false'. Refute it at one input. -/
def maskLiftsWrong : ChangeSpec := { name := "maskLifts", fn := fun _ => fun
  | [d1, d2, d3] => { results := [.lit (.bool false)], args := [d1, d2, d3] }
  | _ => none }
def MaskLiftsWrongFalsely : Prop := maskLiftsRow.holds Tryd.pinned (OpenSpec.ofChange maskLiftsWrong)

/-- 'hypercubelaw01.MaskDrops': WHATEVER THE INPUT: true; the input reads as it did. -/
def maskDropsSpec : ChangeSpec := { name := "maskDrops", fn := fun _ => fun
  | [d1, d2] => { results := [.lit (.bool true)], args := [d1, d2] }
  | _ => none }
def maskDropsRow : OpenClaim := { program := "ytidpieakofhmiaadoor", sum := "59ab7d549c348a7d02b5875cde98724a96f3639412d523c653c3caf8a5235c6a", func := "hypercube/hypercubelaw01.MaskDrops", spec := "maskDrops", unfollowed := true, recurses := true, named := ["math/bits.deBruijn32tab"], apart := false, laid := [("math/bits.deBruijn32tab", laid_math_bits_deBruijn32tab)] }
def MaskDropsSaid : Prop := maskDropsRow.holds Tryd.pinned (OpenSpec.ofChange maskDropsSpec)

/-- ITS FALSE NEIGHBOUR: 'it returns false'. Refute it at one input. -/
def maskDropsWrong : ChangeSpec := { name := "maskDrops", fn := fun _ => fun
  | [d1, d2] => { results := [.lit (.bool false)], args := [d1, d2] }
  | _ => none }
def MaskDropsWrongFalsely : Prop := maskDropsRow.holds Tryd.pinned (OpenSpec.ofChange maskDropsWrong)

/-- 'hypercubelaw01.MaskLists': WHATEVER THE INPUT: true; the input reads as it did. -/
def maskListsSpec : ChangeSpec := { name := "maskLists", fn := fun _ => fun
  | [d] => { results := [.lit (.bool true)], args := [d] }
  | _ => none }
def maskListsRow : OpenClaim := { program := "ytidpieakofhmiaadoor", sum := "59ab7d549c348a7d02b5875cde98724a96f3639412d523c653c3caf8a5235c6a", func := "hypercube/hypercubelaw01.MaskLists", spec := "maskLists", unfollowed := true, recurses := true, named := ["math/bits.deBruijn32tab"], apart := false, laid := [("math/bits.deBruijn32tab", laid_math_bits_deBruijn32tab)] }
def MaskListsSaid : Prop := maskListsRow.holds Tryd.pinned (OpenSpec.ofChange maskListsSpec)

/-- ITS FALSE NEIGHBOUR: 'it returns false'. Refute it at one input. -/
def maskListsWrong : ChangeSpec := { name := "maskLists", fn := fun _ => fun
  | [d] => { results := [.lit (.bool false)], args := [d] }
  | _ => none }
def MaskListsWrongFalsely : Prop := maskListsRow.holds Tryd.pinned (OpenSpec.ofChange maskListsWrong)

/-- 'hypercubelaw01.MaskAdds': WHATEVER THE INPUT: true; the input reads as it did. -/
def maskAddsSpec : ChangeSpec := { name := "maskAdds", fn := fun _ => fun
  | [d1, d2, d3, d4] => { results := [.lit (.bool true)], args := [d1, d2, d3, d4] }
  | _ => none }
def maskAddsRow : OpenClaim := { program := "ytidpieakofhmiaadoor", sum := "59ab7d549c348a7d02b5875cde98724a96f3639412d523c653c3caf8a5235c6a", func := "hypercube/hypercubelaw01.MaskAdds", spec := "maskAdds", unfollowed := true, recurses := true, named := ["math/bits.deBruijn32tab"], apart := false, laid := [("math/bits.deBruijn32tab", laid_math_bits_deBruijn32tab)] }
def MaskAddsSaid : Prop := maskAddsRow.holds Tryd.pinned (OpenSpec.ofChange maskAddsSpec)

/-- ITS FALSE NEIGHBOUR: 'it returns false'. Refute it at one input. -/
def maskAddsWrong : ChangeSpec := { name := "maskAdds", fn := fun _ => fun
  | [d1, d2, d3, d4] => { results := [.lit (.bool false)], args := [d1, d2, d3, d4] }
  | _ => none }
def MaskAddsWrongFalsely : Prop := maskAddsRow.holds Tryd.pinned (OpenSpec.ofChange maskAddsWrong)

/-- 'hypercubelaw01.MaskBack': WHATEVER THE INPUT: true; the input reads as it did. -/
def maskBackSpec : ChangeSpec := { name := "maskBack", fn := fun _ => fun
  | [d1, d2] => { results := [.lit (.bool true)], args := [d1, d2] }
  | _ => none }
def maskBackRow : OpenClaim := { program := "ytidpieakofhmiaadoor", sum := "59ab7d549c348a7d02b5875cde98724a96f3639412d523c653c3caf8a5235c6a", func := "hypercube/hypercubelaw01.MaskBack", spec := "maskBack", unfollowed := true, recurses := true, named := ["math/bits.deBruijn32tab"], apart := false, laid := [("math/bits.deBruijn32tab", laid_math_bits_deBruijn32tab)] }
def MaskBackSaid : Prop := maskBackRow.holds Tryd.pinned (OpenSpec.ofChange maskBackSpec)

/-- ITS FALSE NEIGHBOUR: 'it returns false'. Refute it at one input. -/
def maskBackWrong : ChangeSpec := { name := "maskBack", fn := fun _ => fun
  | [d1, d2] => { results := [.lit (.bool false)], args := [d1, d2] }
  | _ => none }
def MaskBackWrongFalsely : Prop := maskBackRow.holds Tryd.pinned (OpenSpec.ofChange maskBackWrong)

/-- 'hypercubelaw01.MaskAsks': WHATEVER THE INPUT: true; the input reads as it did. -/
def maskAsksSpec : ChangeSpec := { name := "maskAsks", fn := fun _ => fun
  | [d1, d2] => { results := [.lit (.bool true)], args := [d1, d2] }
  | _ => none }
def maskAsksRow : OpenClaim := { program := "ytidpieakofhmiaadoor", sum := "59ab7d549c348a7d02b5875cde98724a96f3639412d523c653c3caf8a5235c6a", func := "hypercube/hypercubelaw01.MaskAsks", spec := "maskAsks", unfollowed := true, recurses := true, named := ["math/bits.deBruijn32tab"], apart := false, laid := [("math/bits.deBruijn32tab", laid_math_bits_deBruijn32tab)] }
def MaskAsksSaid : Prop := maskAsksRow.holds Tryd.pinned (OpenSpec.ofChange maskAsksSpec)

/-- ITS FALSE NEIGHBOUR: 'it returns false'. Refute it at one input. -/
def maskAsksWrong : ChangeSpec := { name := "maskAsks", fn := fun _ => fun
  | [d1, d2] => { results := [.lit (.bool false)], args := [d1, d2] }
  | _ => none }
def MaskAsksWrongFalsely : Prop := maskAsksRow.holds Tryd.pinned (OpenSpec.ofChange maskAsksWrong)

/-- 'hypercubelaw01.MaskSets': WHATEVER THE INPUT: true; the input reads as it did. -/
def maskSetsSpec : ChangeSpec := { name := "maskSets", fn := fun _ => fun
  | [d1, d2, d3] => { results := [.lit (.bool true)], args := [d1, d2, d3] }
  | _ => none }
def maskSetsRow : OpenClaim := { program := "ytidpieakofhmiaadoor", sum := "59ab7d549c348a7d02b5875cde98724a96f3639412d523c653c3caf8a5235c6a", func := "hypercube/hypercubelaw01.MaskSets", spec := "maskSets", unfollowed := true, recurses := true, named := ["math/bits.deBruijn32tab"], apart := false, laid := [("math/bits.deBruijn32tab", laid_math_bits_deBruijn32tab)] }
def MaskSetsSaid : Prop := maskSetsRow.holds Tryd.pinned (OpenSpec.ofChange maskSetsSpec)

/-- ITS FALSE NEIGHBOUR: 'it returns false'. Refute it at one input. -/
def maskSetsWrong : ChangeSpec := { name := "maskSets", fn := fun _ => fun
  | [d1, d2, d3] => { results := [.lit (.bool false)], args := [d1, d2, d3] }
  | _ => none }
def MaskSetsWrongFalsely : Prop := maskSetsRow.holds Tryd.pinned (OpenSpec.ofChange maskSetsWrong)

/- THE SECOND FORM. 'bulk': how many values and letters a reading holds, each counted each time it is reached (what is shared counts as often as it is met; a slice's spare places count too). A statement '..UptoSaid' is the law's where the arguments, and the package variables that the reading takes, are together of bulk at most 1048576: NARROWER than '..Said'. Prove '..Said' where nothing that the law and all that it calls make is longer than what came in: it says more and counts as full. Else prove '..UptoSaid'. A law counts once. -/
mutual
def uptoBulk {H : Type} : DataW H → Nat
  | .lit (.string bytes) => bytes.length + 1
  | .lit _ => 1
  | .nil => 1
  | .ptr d => uptoBulk d + 1
  | .slice elems spare => uptoBulkAll elems + uptoBulkAll spare + 1
  | .agg parts => uptoBulkAll parts + 1
  | .iface _ d => uptoBulk d + 1
  | .map entries => uptoBulkEntries entries + 1
  | .held _ => 1
def uptoBulkAll {H : Type} : List (DataW H) → Nat
  | [] => 0
  | d :: r => uptoBulk d + uptoBulkAll r
def uptoBulkEntries {H : Type} : List (Lit × DataW H) → Nat
  | [] => 0
  | x :: r => uptoBulkEntry x + uptoBulkEntries r
def uptoBulkEntry {H : Type} : Lit × DataW H → Nat
  | (.string bytes, d) => bytes.length + uptoBulk d + 1
  | (_, d) => uptoBulk d + 1
 end
def uptoSmall : (H : Type) → List (DataW H) → Bool := fun _ ds => decide (uptoBulkAll ds ≤ 1048576)
def OpenSpec.upto (s : _root_.Go.ChangeSpec) : _root_.Go.OpenSpec := { _root_.Go.OpenSpec.ofChange s with cond := some uptoSmall }

/-- 'hypercubelaw01.MaskLifts', WHERE WHAT IT READS IS OF BULK AT MOST 1048576: true; the input reads as it did. -/
def maskLiftsUptoRow : OpenClaim := { program := "ytidpieakofhmiaadoor", sum := "59ab7d549c348a7d02b5875cde98724a96f3639412d523c653c3caf8a5235c6a", func := "hypercube/hypercubelaw01.MaskLifts", spec := "maskLifts", unfollowed := true, recurses := true, named := ["math/bits.deBruijn32tab"], apart := false, laid := [("math/bits.deBruijn32tab", laid_math_bits_deBruijn32tab)], narrowed := true }
def MaskLiftsUptoSaid : Prop := maskLiftsUptoRow.holds Tryd.pinned (OpenSpec.upto maskLiftsSpec)

/-- 'hypercubelaw01.MaskDrops', WHERE WHAT IT READS IS OF BULK AT MOST 1048576: true; the input reads as it did. -/
def maskDropsUptoRow : OpenClaim := { program := "ytidpieakofhmiaadoor", sum := "59ab7d549c348a7d02b5875cde98724a96f3639412d523c653c3caf8a5235c6a", func := "hypercube/hypercubelaw01.MaskDrops", spec := "maskDrops", unfollowed := true, recurses := true, named := ["math/bits.deBruijn32tab"], apart := false, laid := [("math/bits.deBruijn32tab", laid_math_bits_deBruijn32tab)], narrowed := true }
def MaskDropsUptoSaid : Prop := maskDropsUptoRow.holds Tryd.pinned (OpenSpec.upto maskDropsSpec)

/-- 'hypercubelaw01.MaskLists', WHERE WHAT IT READS IS OF BULK AT MOST 1048576: true; the input reads as it did. -/
def maskListsUptoRow : OpenClaim := { program := "ytidpieakofhmiaadoor", sum := "59ab7d549c348a7d02b5875cde98724a96f3639412d523c653c3caf8a5235c6a", func := "hypercube/hypercubelaw01.MaskLists", spec := "maskLists", unfollowed := true, recurses := true, named := ["math/bits.deBruijn32tab"], apart := false, laid := [("math/bits.deBruijn32tab", laid_math_bits_deBruijn32tab)], narrowed := true }
def MaskListsUptoSaid : Prop := maskListsUptoRow.holds Tryd.pinned (OpenSpec.upto maskListsSpec)

/-- 'hypercubelaw01.MaskAdds', WHERE WHAT IT READS IS OF BULK AT MOST 1048576: true; the input reads as it did. -/
def maskAddsUptoRow : OpenClaim := { program := "ytidpieakofhmiaadoor", sum := "59ab7d549c348a7d02b5875cde98724a96f3639412d523c653c3caf8a5235c6a", func := "hypercube/hypercubelaw01.MaskAdds", spec := "maskAdds", unfollowed := true, recurses := true, named := ["math/bits.deBruijn32tab"], apart := false, laid := [("math/bits.deBruijn32tab", laid_math_bits_deBruijn32tab)], narrowed := true }
def MaskAddsUptoSaid : Prop := maskAddsUptoRow.holds Tryd.pinned (OpenSpec.upto maskAddsSpec)

/-- 'hypercubelaw01.MaskBack', WHERE WHAT IT READS IS OF BULK AT MOST 1048576: true; the input reads as it did. -/
def maskBackUptoRow : OpenClaim := { program := "ytidpieakofhmiaadoor", sum := "59ab7d549c348a7d02b5875cde98724a96f3639412d523c653c3caf8a5235c6a", func := "hypercube/hypercubelaw01.MaskBack", spec := "maskBack", unfollowed := true, recurses := true, named := ["math/bits.deBruijn32tab"], apart := false, laid := [("math/bits.deBruijn32tab", laid_math_bits_deBruijn32tab)], narrowed := true }
def MaskBackUptoSaid : Prop := maskBackUptoRow.holds Tryd.pinned (OpenSpec.upto maskBackSpec)

/-- 'hypercubelaw01.MaskAsks', WHERE WHAT IT READS IS OF BULK AT MOST 1048576: true; the input reads as it did. -/
def maskAsksUptoRow : OpenClaim := { program := "ytidpieakofhmiaadoor", sum := "59ab7d549c348a7d02b5875cde98724a96f3639412d523c653c3caf8a5235c6a", func := "hypercube/hypercubelaw01.MaskAsks", spec := "maskAsks", unfollowed := true, recurses := true, named := ["math/bits.deBruijn32tab"], apart := false, laid := [("math/bits.deBruijn32tab", laid_math_bits_deBruijn32tab)], narrowed := true }
def MaskAsksUptoSaid : Prop := maskAsksUptoRow.holds Tryd.pinned (OpenSpec.upto maskAsksSpec)

/-- 'hypercubelaw01.MaskSets', WHERE WHAT IT READS IS OF BULK AT MOST 1048576: true; the input reads as it did. -/
def maskSetsUptoRow : OpenClaim := { program := "ytidpieakofhmiaadoor", sum := "59ab7d549c348a7d02b5875cde98724a96f3639412d523c653c3caf8a5235c6a", func := "hypercube/hypercubelaw01.MaskSets", spec := "maskSets", unfollowed := true, recurses := true, named := ["math/bits.deBruijn32tab"], apart := false, laid := [("math/bits.deBruijn32tab", laid_math_bits_deBruijn32tab)], narrowed := true }
def MaskSetsUptoSaid : Prop := maskSetsUptoRow.holds Tryd.pinned (OpenSpec.upto maskSetsSpec)

end Rows
end Go.Proofs.YtidpieakofhmiaaDoor
