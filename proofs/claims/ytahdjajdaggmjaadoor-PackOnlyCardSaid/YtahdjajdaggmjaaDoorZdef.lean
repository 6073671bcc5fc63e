/-
Plain definitions on terms.
-/
import Derived.Test.YtahdjajdaggmjaaDoorXPox0
import Derived.Test.YtahdjajdaggmjaaDoorWd
set_option linter.unusedVariables false
set_option linter.unusedSimpArgs false
namespace Go.Proofs.YtahdjajdaggmjaaDoor.XPo
open Go.RowKit Go.Proofs.YtahdjajdaggmjaaDoorW.PrintWords Go.Proofs.YtahdjajdaggmjaaDoorW.PrintLast Go.Proofs.YtahdjajdaggmjaaDoorW.PrintMore
-- ONCE zdef
/-! ### Terms in plain words -/
abbrev Tm := S45
abbrev Br := B73 S45
abbrev Cl := S91
mutual
def sizeT : Tm → Nat
  | ⟨_, _, _, _, ks, bs⟩ => sizeL ks + sizeB bs + 1
def sizeL : List Tm → Nat
  | [] => 0
  | t :: r => sizeT t + sizeL r
def sizeB : List Br → Nat
  | [] => 0
  | b :: r => sizeR b + sizeB r
def sizeR : Br → Nat
  | ⟨_, ks⟩ => sizeL ks
end
mutual
def depthT : Tm → Nat
  | ⟨_, _, _, _, ks, bs⟩ => max (depthL ks) (depthB bs) + 1
def depthL : List Tm → Nat
  | [] => 0
  | t :: r => max (depthT t) (depthL r)
def depthB : List Br → Nat
  | [] => 0
  | b :: r => max (depthR b) (depthB r)
def depthR : Br → Nat
  | ⟨_, ks⟩ => depthL ks
end
theorem sizeT_eq (t : Tm) : sizeT t = sizeL t.f4 + sizeB t.f5 + 1 := by
  cases t
  rw [sizeT]
theorem sizeR_eq (b : Br) : sizeR b = sizeL b.f1 := by
  cases b
  rw [sizeR]
theorem depthT_eq (t : Tm) : depthT t = max (depthL t.f4) (depthB t.f5) + 1 := by
  cases t
  rw [depthT]
theorem depthR_eq (b : Br) : depthR b = depthL b.f1 := by
  cases b
  rw [depthR]
theorem sizeL_mem {k : Tm} : ∀ {l : List Tm}, k ∈ l → sizeT k ≤ sizeL l
  | [], h => absurd h (by simp)
  | t :: r, h => by
    rw [sizeL]
    rcases List.mem_cons.1 h with rfl | h
    · omega
    · have := sizeL_mem h
      omega
theorem sizeB_mem {b : Br} : ∀ {l : List Br}, b ∈ l → sizeR b ≤ sizeB l
  | [], h => absurd h (by simp)
  | t :: r, h => by
    rw [sizeB]
    rcases List.mem_cons.1 h with rfl | h
    · omega
    · have := sizeB_mem h
      omega
theorem sizeT_pos (t : Tm) : 0 < sizeT t := by rw [sizeT_eq]; omega
theorem sizeT_kid {t k : Tm} (h : k ∈ t.f4) : sizeT k < sizeT t := by
  have := sizeL_mem h
  rw [sizeT_eq t]
  omega
theorem sizeT_part {t k : Tm} {b : Br} (hb : b ∈ t.f5) (h : k ∈ b.f1) : sizeT k < sizeT t := by
  have h1 := sizeL_mem h
  have h2 := sizeB_mem hb
  rw [sizeR_eq] at h2
  rw [sizeT_eq t]
  omega
/-! ### Elements of a row that is read, by a Nat -/
theorem rd_T91_at {xs : List S91} {j : Nat} (h : j < xs.length) : rd_T91 xs ((j : Nat) : Int) = xs[j] := by
  unfold rd_T91
  rw [Int.toNat_natCast, List.getD_eq_getElem?_getD, List.getElem?_eq_getElem h]
  rfl
theorem rd_T45_at {xs : List S45} {j : Nat} (h : j < xs.length) : rd_T45 xs ((j : Nat) : Int) = xs[j] := by
  unfold rd_T45
  rw [Int.toNat_natCast, List.getD_eq_getElem?_getD, List.getElem?_eq_getElem h]
  rfl
theorem rd_T73_at {xs : List S73} {j : Nat} (h : j < xs.length) : rd_T73 xs ((j : Nat) : Int) = xs[j] := by
  unfold rd_T73
  rw [Int.toNat_natCast, List.getD_eq_getElem?_getD, List.getElem?_eq_getElem h]
  rfl
theorem at_cl {w : World} {A : Option Addr} {xs : List S91} (h : Kd.C k91 w A xs.length xs) (j : Nat) (hj : j < xs.length) : ∃ ad, A = some ad ∧ w.cell? (ad.add (j * 2)) = some (.int .u32 xs[j].f0) ∧ w.cell? ⟨(ad.add (j * 2)).block, (ad.add (j * 2)).off + 1, none⟩ = some (.int .u32 xs[j].f1) := by
  have := at_T91 h (j : Int) (by omega) (by omega)
  rwa [rd_T91_at hj, Int.toNat_natCast] at this
theorem at_tm {w : World} {A : Option Addr} {xs : List S45} (h : Kd.C k45 w A xs.length xs) (j : Nat) (hj : j < xs.length) : ∃ ad A3 c3 A4 c4 A5 c5, A = some ad ∧ w.cell? (ad.add (j * 6)) = some (.int .i64 xs[j].f0) ∧ w.cell? ⟨(ad.add (j * 6)).block, (ad.add (j * 6)).off + 1, none⟩ = some (.int .i64 xs[j].f1) ∧ w.cell? ⟨(ad.add (j * 6)).block, (ad.add (j * 6)).off + 2, none⟩ = some (.string xs[j].f2) ∧ w.cell? ⟨(ad.add (j * 6)).block, (ad.add (j * 6)).off + 3, none⟩ = some (.slice A3 xs[j].f3.length c3) ∧ w.cell? ⟨(ad.add (j * 6)).block, (ad.add (j * 6)).off + 4, none⟩ = some (.slice A4 xs[j].f4.length c4) ∧ w.cell? ⟨(ad.add (j * 6)).block, (ad.add (j * 6)).off + 5, none⟩ = some (.slice A5 xs[j].f5.length c5) ∧
    k45.K w xs[j] [.int .i64 xs[j].f0, .int .i64 xs[j].f1, .string xs[j].f2, .slice A3 xs[j].f3.length c3, .slice A4 xs[j].f4.length c4, .slice A5 xs[j].f5.length c5] := by
  obtain ⟨ad, A3, c3, A4, c4, A5, c5, e, h0, h1, h2, h3, h4, h5, l3, g3, l4, g4, l5, g5⟩ := at_T45 h (j : Int) (by omega) (by omega)
  rw [rd_T45_at hj] at h0 h1 h2 h3 h4 h5 l3 g3 l4 g4 l5 g5
  rw [Int.toNat_natCast] at h0 h1 h2 h3 h4 h5
  exact ⟨ad, A3, c3, A4, c4, A5, c5, e, h0, h1, h2, h3, h4, h5, k45_mk w xs[j] l3 g3 l4 g4 l5 g5⟩
theorem at_br {w : World} {A : Option Addr} {xs : List S73} (h : Kd.C k73 w A xs.length xs) (j : Nat) (hj : j < xs.length) : ∃ ad A0 c0 A1 c1, A = some ad ∧ w.cell? (ad.add (j * 2)) = some (.slice A0 xs[j].f0.length c0) ∧ w.cell? ⟨(ad.add (j * 2)).block, (ad.add (j * 2)).off + 1, none⟩ = some (.slice A1 xs[j].f1.length c1) ∧ xs[j].f0.length ≤ c0 ∧ Kd.C k91 w A0 xs[j].f0.length xs[j].f0 ∧ xs[j].f1.length ≤ c1 ∧ Kd.C k45 w A1 xs[j].f1.length xs[j].f1 := by
  have := at_T73 h (j : Int) (by omega) (by omega)
  rwa [rd_T73_at hj, Int.toNat_natCast] at this
-- END zdef
end Go.Proofs.YtahdjajdaggmjaaDoor.XPo
