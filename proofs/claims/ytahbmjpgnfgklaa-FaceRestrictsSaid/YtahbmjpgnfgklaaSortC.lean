/-
Walks: cmp.Compare and clause.Cmp (to the world that the sort asks for); slices.SortFunc of clauses: the slice then holds the sorted list.
-/
import Derived.Sort.OwnSorted
import Derived.Shelf.SlSortCmp.NoneTotal
import Derived.Test.YtahbmjpgnfgklaaSortLay
import Derived.Test.YtahbmjpgnfgklaaPred
namespace Go.Proofs.Ytahbmjpgnfgklaa
open Go.RowKit Go.Sort H

def cmpN (x y : Int) : Int := if x < y then -1 else if y < x then 1 else 0
theorem cmp_compare (x y : Int) (w : World) : Calls Try.prog 43 #[.int .u32 x, .int .u32 y] w fun e w' => e = .returned (.int .i64 (cmpN x y)) ∧ w' = w := by
  have hn : ∀ x W, Calls Try.prog 70 #[.int .u32 x] W fun e w' => e = .returned (.bool false) ∧ w' = W := fun x W => by
    go_enter Try.func70, Try.ntmps70
    go_wp2
    go_ret
    exact ⟨by simp, rfl⟩
  unfold cmpN
  by_cases h1 : x < y
  · rw [if_pos h1]
    go_enter Try.func43, Try.ntmps43
    go_wp2_with (go_at_call 70; refine (hn _ _).mono ?_; rintro e w' ⟨rfl, rfl⟩)
    go_ret
    exact ⟨rfl, rfl⟩
  · rw [if_neg h1]
    by_cases h2 : y < x
    · rw [if_pos h2]
      go_enter Try.func43, Try.ntmps43
      go_wp2_with (go_at_call 70; refine (hn _ _).mono ?_; rintro e w' ⟨rfl, rfl⟩)
      go_ret
      exact ⟨rfl, rfl⟩
    · rw [if_neg h2]
      go_enter Try.func43, Try.ntmps43
      go_wp2_with (go_at_call 70; refine (hn _ _).mono ?_; rintro e w' ⟨rfl, rfl⟩)
      go_ret
      exact ⟨rfl, rfl⟩
def cmpC (a b : C) : Int := if ltC a b = true then -1 else if ltC b a = true then 1 else 0
theorem cmpC_eq (a b : C) : cmpC a b = if a.1 = b.1 then cmpN (un a.2) (un b.2) else cmpN (un a.1) (un b.1) := by
  have e : ∀ x y : UInt32, un x < un y ↔ x.toNat < y.toNat := fun x y => by unfold un; omega
  unfold cmpC cmpN ltC
  simp only [e, decide_eq_true_eq]
  by_cases h : a.1 = b.1
  · simp [h]
  · have h' : ¬ b.1 = a.1 := fun h2 => h h2.symm
    simp [h, h']
theorem clause_cmp (a b : C) (w : World) : Calls Try.prog 16 #[vC a, vC b] w fun e w' => e = .returned (.int .i64 (cmpC a b)) ∧ ∃ q os', w' = grow (w.drewN q) os' := by
  have hc := cmp_compare
  rw [cmpC_eq]
  unfold vC
  by_cases h : a.1 = b.1
  · have hn : (un a.1 != un b.1) = false := by rw [h]; simp
    rw [if_pos h]
    have hcon := hc (un a.2) (un b.2)
    generalize cmpN (un a.2) (un b.2) = r at hcon ⊢
    clear hc
    go_enter Try.func16, Try.ntmps16
    go_wp2_with (go_at_call 43; refine (hcon _).mono ?_; rintro e w' ⟨rfl, rfl⟩)
    go_ret
    exact ⟨rfl, 0, _, by rw [alloc_eq_grow, alloc_eq_grow, grow_grow]; rfl⟩
  · have hn : (un a.1 != un b.1) = true := by
      rw [bne_iff_ne]
      exact fun e => h (un_inj.1 e)
    rw [if_neg h]
    have hcon := hc (un a.1) (un b.1)
    generalize cmpN (un a.1) (un b.1) = r at hcon ⊢
    clear hc
    go_enter Try.func16, Try.ntmps16
    go_wp2_with (go_at_call 43; refine (hcon _).mono ?_; rintro e w' ⟨rfl, rfl⟩)
    go_ret
    exact ⟨rfl, 0, _, by rw [alloc_eq_grow, alloc_eq_grow, grow_grow]; rfl⟩
end Go.Proofs.Ytahbmjpgnfgklaa
