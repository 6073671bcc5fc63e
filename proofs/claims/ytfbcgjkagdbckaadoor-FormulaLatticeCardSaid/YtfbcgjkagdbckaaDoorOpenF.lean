/-
How an argument that is a clause, or a slice of clauses, reads.
-/
import Derived.Deep.Slices
import Derived.Lib.SmallJoins
import Derived.ChangeSame
import Derived.ChangeOld
import Derived.OpenShut
import Derived.Test.YtfbcgjkagdbckaaDoorXFlx2
namespace Go.Proofs.YtfbcgjkagdbckaaDoor
open Go.RowKit Go.ChangeShapes Go.WideShapes Go.ChangeAt H
open Go.Proofs.YtfbcgjkagdbckaaDoor.XFl Go.Proofs.YtfbcgjkagdbckaaDoorW.PrintWords

theorem laidOutAll : laidOutB Tryd.prog = true := by kernel_rfl
theorem fieldsC : Tryd.prog.underlying 60 = some (.struct (Tryd.prog.fieldsOf 60)) := by kernel_rfl
theorem wf32 {a : Int} (h : (Lit.int .u32 a).wf = true) : 0 ≤ a ∧ a < 4294967296 := by
  have h' : 0 ≤ a ∧ a ≤ 4294967295 := by simpa [Lit.wf, IntKind.min, IntKind.max, IntKind.bits, IntKind.signed] using h
  omega
theorem two_of_len {α : Type} {l : List α} (h : l.length = 2) : ∃ a b, l = [a, b] := by
  match l, h with
  | [a, b], _ => exact ⟨a, b, rfl⟩
set_option maxRecDepth 100000 in
/-- A clause's two cells, read off the reading of the struct. -/
theorem cellsC {G : Type} {enc : TypeId × Value → G} {W : World} {base : Nat} {sp : Nat → Bool} {held : Bool} {n : Nat} {cs : List Value} {x : DataW G × List MemPlace} (h : DataW.trod enc Tryd.prog W base sp held n 60 cs = some x) :
    ∃ c : H.C, cs = [.int .u32 (un c.1), .int .u32 (un c.2)] := by
  have hc : Tryd.prog.cellsOf 60 = 2 := by kernel_rfl
  have hc1 : Tryd.prog.cellsOf 58 = 1 := by kernel_rfl
  obtain ⟨y0, y1, m, rfl, hl, h0, h1⟩ := trod_struct2 Tryd.underlying60 h
  obtain ⟨a, ha, _, wa⟩ := DataW.trod_int Tryd.underlying58 h0
  obtain ⟨b, hb, _, wb⟩ := DataW.trod_int Tryd.underlying58 h1
  rw [hc] at hl
  rw [hc1] at ha hb
  obtain ⟨u, v, rfl⟩ := two_of_len hl
  simp at ha hb
  subst ha hb
  have ra := wf32 wa
  have rb := wf32 wb
  exact ⟨(UInt32.ofNat a.toNat, UInt32.ofNat b.toNat), by rw [un_ofNat ra.1 ra.2, un_ofNat rb.1 rb.2]⟩
set_option maxRecDepth 100000 in
/-- An argument that is a slice of clauses. -/
theorem openRow {G : Type} {enc : TypeId × Value → G} {W : World} {sp : Nat → Bool} {held : Bool} {v : Value} {d : DataW G} {p : List MemPlace} {r : Reach} {b0 : Nat} (hv : Value.okWide Tryd.prog W r b0 26 v) (h : DataW.Trod enc Tryd.prog W 0 sp held 26 v d p) :
    ∃ (A : Option Addr) (cap : Nat) (l : List H.C), v = .slice A (l.map ofC24).length cap ∧ (l.map ofC24).length ≤ cap ∧ Kd.C k60 W A (l.map ofC24).length (l.map ofC24) := by
  have hc : Tryd.prog.cellsOf 60 = 2 := by kernel_rfl
  obtain ⟨A, len, cap, rfl⟩ := okWide_slice Tryd.underlying26 hv
  obtain ⟨fuel, hf⟩ := h
  rcases Go.Deep.open_slice Tryd.underlying26 hf with ⟨hcs, _⟩ | ⟨a, len2, cap2, m, n, D, Pl, hcs, _, hl, hm, hmm, _, hel⟩
  · simp [Value.cells] at hcs
    obtain ⟨rfl, rfl, rfl⟩ := hcs
    exact ⟨none, 0, [], rfl, Nat.le_refl _, rfl, by simp, fun h => absurd h (by simp)⟩
  · simp [Value.cells] at hcs
    obtain ⟨rfl, rfl, rfl⟩ := hcs
    have hlm : len ≤ m := by rw [hmm]; split <;> omega
    have key : ∀ i, i < len → ∃ c : H.C, ∀ k u, ([.int .u32 (un c.1), .int .u32 (un c.2)] : List Value)[k]? = some u → W.cell? (a.add (i * 2 + k)) = some u := by
      intro i hi
      obtain ⟨cs', hcell, ht⟩ := hel i (by omega)
      obtain ⟨c, rfl⟩ := cellsC ht
      rw [hc] at hcell
      obtain ⟨_, hlen, hg⟩ := World.cells?_some hcell
      refine ⟨c, fun k u hk => ?_⟩
      have hk2 : k < 2 := by
        rcases Nat.lt_or_ge k 2 with h | h
        · exact h
        · rw [List.getElem?_eq_none (by simpa using h)] at hk; cases hk
      have h3 := hg k hk2
      rw [hk] at h3
      rw [← h3, Addr.add_add]
    obtain ⟨l, hll, hl2⟩ : ∃ l : List H.C, l.length = len ∧ ∀ i c, l[i]? = some c → ∀ k u, ([.int .u32 (un c.1), .int .u32 (un c.2)] : List Value)[k]? = some u → W.cell? (a.add (i * 2 + k)) = some u := by
      have : ∀ n, n ≤ len → ∃ l : List H.C, l.length = n ∧ ∀ i c, l[i]? = some c → ∀ k u, ([.int .u32 (un c.1), .int .u32 (un c.2)] : List Value)[k]? = some u → W.cell? (a.add (i * 2 + k)) = some u := by
        intro n
        induction n with
        | zero => exact fun _ => ⟨[], rfl, fun i c h => by simp at h⟩
        | succ n ih =>
          intro hn
          obtain ⟨l, h1, h2⟩ := ih (by omega)
          obtain ⟨c, hc⟩ := key n (by omega)
          refine ⟨l ++ [c], by simp [h1], fun i c' h => ?_⟩
          rcases Nat.lt_or_ge i l.length with h3 | h3
          · rw [List.getElem?_append_left h3] at h
            exact h2 i c' h
          · rw [List.getElem?_append_right h3] at h
            have h4 : i = n := by
              rcases Nat.lt_or_ge (i - l.length) 1 with h5 | h5
              · omega
              · rw [List.getElem?_eq_none (by simpa using h5)] at h; cases h
            subst h4
            rw [h1, Nat.sub_self] at h
            cases h
            exact hc
      exact this len (Nat.le_refl _)
    refine ⟨some a, cap, l, by rw [List.length_map, hll], by rw [List.length_map, hll]; exact hl, rfl, by rw [List.length_map, hll]; unfold maxLen at hm; omega, fun _ => ⟨a, rfl, fun j p hp => ?_⟩⟩
    rw [List.getElem?_map] at hp
    obtain ⟨c, hcj, rfl⟩ := Option.map_eq_some_iff.1 hp
    exact ⟨_, rfl, k60_mk W (ofC24 c), hl2 j c hcj⟩
set_option maxRecDepth 100000 in
/-- An argument that is a clause. -/
theorem openClause {G : Type} {enc : TypeId × Value → G} {W : World} {base : Nat} {sp : Nat → Bool} {held : Bool} {v : Value} {d : DataW G} {p : List MemPlace} {r : Reach} {b0 : Nat} (hv : Value.okWide Tryd.prog W r b0 60 v) (h : DataW.Trod enc Tryd.prog W base sp held 60 v d p) :
    ∃ c : H.C, v = .agg #[.int .u32 (un c.1), .int .u32 (un c.2)] := by
  obtain ⟨cs, rfl, hsz⟩ := okWide_struct Tryd.underlying60 hv
  obtain ⟨fuel, hf⟩ := h
  obtain ⟨c, hc⟩ := cellsC hf
  refine ⟨c, ?_⟩
  have : cs.toList = [.int .u32 (un c.1), .int .u32 (un c.2)] := by simpa [Value.cells] using hc
  rw [← Array.toArray_toList (xs := cs), this]
end Go.Proofs.YtfbcgjkagdbckaaDoor
