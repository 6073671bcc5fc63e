/-
How an argument that is a row of bytes reads.
-/
import Derived.Deep.Slices
import Derived.Lib.SmallJoins
import Derived.ChangeSame
import Derived.ChangeOld
import Derived.OpenShut
import Derived.Test.YtahdjajdaggmjaaDoorXPox0
import Derived.Test.YtahdjajdaggmjaaDoorXPox1
import Derived.Test.YtahdjajdaggmjaaDoorXPox2
import Derived.Test.YtahdjajdaggmjaaDoorXPox3
import Derived.Test.YtahdjajdaggmjaaDoorXPox4
import Derived.Test.YtahdjajdaggmjaaDoorXPox5
import Derived.Test.YtahdjajdaggmjaaDoorXPox6
import Derived.Test.YtahdjajdaggmjaaDoorXPox7
import Derived.Test.YtahdjajdaggmjaaDoorWWords
set_option maxRecDepth 100000
set_option linter.unusedVariables false
set_option linter.unusedSimpArgs false
namespace Go.Proofs.YtahdjajdaggmjaaDoor
open Go.RowKit Go.ChangeShapes Go.WideShapes Go.ChangeAt
open Go.Proofs.YtahdjajdaggmjaaDoorW.PrintWords

/-- An argument that is a row of bytes. -/
theorem openBytes {G : Type} {enc : TypeId × Value → G} {W : World} {base : Nat} {held : Bool} {v : Value} {d : DataW G} {p : List MemPlace} {r : Reach} {b0 : Nat} (hv : Value.okWide Tryd.prog W r b0 25 v) (h : DataW.Trod enc Tryd.prog W base (fun _ => true) held 25 v d p) :
    ∃ (A : Option Addr) (cap : Nat) (l : List Int), v = .slice A l.length cap ∧ l.length ≤ cap ∧ Kd.C (Kd.int .u8) W A l.length l ∧ ∀ x ∈ l, 0 ≤ x ∧ x < 256 := by
  obtain ⟨a0, len0, cap0, rfl⟩ := okWide_slice Tryd.underlying25 hv
  obtain ⟨z0, w0⟩ : ∃ zs : List Int, (a0 = none ∧ len0 = 0 ∧ cap0 = 0 ∧ zs = []) ∨ ∃ x, a0 = some x ∧ len0 ≤ cap0 ∧ cap0 ≤ maxLen ∧ zs.length = cap0 ∧ (∀ i, i < zs.length → W.cell? (x.add i) = some (.int .u8 (zs.getD i 0))) ∧ ∀ n ∈ zs, (Lit.int .u8 n).wf = true := by
    obtain ⟨fuel, hf⟩ := h
    rcases open_ints Tryd.underlying25 Tryd.underlying5 (by kernel_rfl) hf with ⟨hcs, _⟩ | ⟨x, l, c, zs, hcs, _, hl, hm, hz, _, hcell, hwz⟩
    · simp [Value.cells] at hcs
      obtain ⟨rfl, rfl, rfl⟩ := hcs
      exact ⟨[], .inl ⟨rfl, rfl, rfl, rfl⟩⟩
    · simp [Value.cells] at hcs
      obtain ⟨rfl, rfl, rfl⟩ := hcs
      exact ⟨zs, .inr ⟨_, rfl, hl, hm, by simpa using hz, hcell, hwz⟩⟩
  obtain ⟨l, rfl, h1, _, h3, h4⟩ := ReadsInt.ofRowC w0
  refine ⟨a0, cap0, l, rfl, h4, Kd.C_of_reads (d := (0 : Int)) (h1 := fun _ => rfl) h1, fun x hx => ?_⟩
  have h' : 0 ≤ x ∧ x ≤ 255 := by simpa [Lit.wf, IntKind.min, IntKind.max, IntKind.bits, IntKind.signed] using h3 x hx
  omega
end Go.Proofs.YtahdjajdaggmjaaDoor
