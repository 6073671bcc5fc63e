/-
PLAIN LAW: what the statements on faces have in common: the chapter's example.
-/
import Derived.Test.YtcniiabaloicoaaXFqx
import Derived.Test.YtcniiabaloicoaaFh
namespace Go.Proofs.Ytcniiabaloicoaa.Pure
open Go.RowKit Go.Proofs.Ytcniiabaloicoaa.XFq Go.Proofs.YtcniiabaloicoaaW.PrintWords Go.Proofs.YtcniiabaloicoaaW.PrintLast Go.Proofs.YtcniiabaloicoaaW.PrintMore H

def LC (l : List C) : List S32 := l.map ofC24
theorem LC_len (l : List C) : (LC l).length = l.length := List.length_map ..
theorem okLC {l : List C} (h : l.length ≤ 1000000) : okL24 (LC l) := ⟨by unfold LC; rw [List.all_map, List.all_eq_true]; intro c _; rw [Function.comp_apply, inR_ofC24], by rw [LC_len]; exact h⟩
theorem backLC (l : List C) : (LC l).map toC24 = l := by
  unfold LC
  rw [List.map_map]
  refine (List.map_congr_left (g := id) fun c _ => ?_).trans (List.map_id _)
  rw [Function.comp_apply, toC_ofC24]
  rfl
theorem rdC (l : List C) (i : Nat) (h : i < l.length) : rd_T32 (LC l) (i : Int) = ofC24 l[i] := by
  unfold rd_T32 LC
  rw [Int.toNat_natCast, List.getD_eq_getElem?_getD, List.getElem?_map, List.getElem?_eq_getElem h]
  rfl
theorem rightL (l : List C) (h : l.length ≤ 1000000) : face_Right.f (LC l) = some (faceR l) := by
  unfold face_Right.f
  rw [if_pos (okLC h), backLC]
theorem ofL (l : List C) (h : l.length ≤ 1000000) : face_Of.f (LC l) = some (LC (ofF l).1, (ofF l).2) := by
  unfold face_Of.f
  rw [if_pos (okLC h), backLC]
  rfl
theorem allL (l : List C) (i : Int) (h : l.length ≤ 1000000) : face_All.f (LC l) i = some (LC (allF l i).1, (allF l i).2) := by
  unfold face_All.f
  rw [if_pos (okLC h), backLC]
  rfl
theorem restrL (l : List C) (c : C) (h : l.length ≤ 1000000) : face_Restrict.f (LC l) (un c.1) (un c.2) = some (LC (restrF l c).1, (restrF l c).2) := by
  have h2 : toC24 ⟨un c.1, un c.2⟩ = c := toC_ofC24 c
  unfold face_Restrict.f
  rw [if_pos ⟨okLC h, inR_ofC24 c⟩, backLC, h2]
  rfl
theorem same_l0 (a b : List C) (hab : a.length = b.length) (hl : a.length < 4611686018427387904) : ∀ (d k i : Nat), i + d = a.length → d < k → a.take i = b.take i → hypercuberef02_Same.l0 k (LC a) (LC b) (i : Int) = some (decide (a = b))
  | d, 0, _, _, hk, _ => absurd hk (by omega)
  | 0, k + 1, i, hi, _, ht => by
    have e : a = b := by rw [← List.take_of_length_le (l := a) (i := i) (by omega), ht, List.take_of_length_le (by omega)]
    rw [hypercuberef02_Same.l0, if_neg (by rw [LC_len]; omega), decide_eq_true e]
  | d + 1, k + 1, i, hi, hk, ht => by
    have hia : i < a.length := by omega
    have hib : i < b.length := by omega
    have e2 : wrap64 ((i : Int) + 1) = ((i + 1 : Nat) : Int) := by
      unfold wrap64
      omega
    rw [hypercuberef02_Same.l0, if_pos (by rw [LC_len]; omega), if_pos (by omega), if_pos (by rw [LC_len]; omega), rdC a i hia, rdC b i hib]
    have hq : (!((ofC24 a[i]).f0 == (ofC24 b[i]).f0) || !((ofC24 a[i]).f1 == (ofC24 b[i]).f1)) = !decide (a[i] = b[i]) := by
      unfold ofC24
      rw [un_beq, un_beq, Bool.eq_iff_iff]
      simp [Prod.ext_iff]
    rw [hq, e2]
    by_cases hc : a[i] = b[i]
    · rw [if_neg (by simp [hc])]
      refine same_l0 a b hab hl d k (i + 1) (by omega) (by omega) ?_
      rw [List.take_succ_eq_append_getElem hia, List.take_succ_eq_append_getElem hib, ht, hc]
    · rw [if_pos (by simp [hc]), decide_eq_false (fun e => hc (by subst e; rfl))]
theorem sameL (a b : List C) (k : Nat) (hl : a.length < 4611686018427387904) (hk : a.length < k) : hypercuberef02_Same.f k (LC a) (LC b) = some (decide (a = b)) := by
  unfold hypercuberef02_Same.f
  rw [LC_len, LC_len]
  by_cases h : a.length = b.length
  · rw [if_pos (by omega)]
    exact same_l0 a b h hl a.length k 0 (by omega) hk rfl
  · rw [if_neg (by omega), decide_eq_false (fun e => h (by rw [e]))]
theorem same (l : List C) (k : Nat) (hl : l.length < 4611686018427387904) (hk : l.length < k) : hypercuberef02_Same.f k (LC l) (LC l) = some true := by
  rw [sameL l l k hl hk, decide_eq_true rfl]
theorem works (k : Nat) (hk : 5 ≤ k) : hypercubelaw05_works.f k = some true := by
  obtain ⟨k, rfl⟩ : ∃ j, k = j + 5 := ⟨k - 5, by omega⟩
  have e1 := ofL [(0, 2), (1, 0)] (by decide)
  have e2 := ofL [(1, 1)] (by decide)
  have e3 := restrL [(1, 2), (4, 0)] (1, 0) (by decide)
  have e4 := allL [(0, 1), (1, 0), (2, 0)] 0 (by decide)
  rw [ex1] at e1
  rw [ex2] at e2
  rw [ex3] at e3
  rw [ex4] at e4
  have s1 := same [(0, 2), (4, 0)] (k + 5) (by decide) (by simp)
  have s2 := same [(2, 0)] (k + 5) (by decide) (by simp)
  have f1 : LC [(0, 2), (1, 0)] = [⟨0, 2⟩, ⟨1, 0⟩] := rfl
  have f2 : LC [(1, 1)] = [⟨1, 1⟩] := rfl
  have f3 : LC [(1, 2), (4, 0)] = [⟨1, 2⟩, ⟨4, 0⟩] := rfl
  have f4 : LC [(0, 1), (1, 0), (2, 0)] = [⟨0, 1⟩, ⟨1, 0⟩, ⟨2, 0⟩] := rfl
  have f5 : LC [(0, 2), (4, 0)] = [⟨0, 2⟩, ⟨4, 0⟩] := rfl
  have f6 : LC [(2, 0)] = [⟨2, 0⟩] := rfl
  have u1 : un (1, 0).1 = 1 := rfl
  have u2 : un ((1, 0) : C).2 = 0 := rfl
  have u3 : un ((1, 0) : C).1 = 1 := rfl
  rw [f1] at e1
  rw [f2] at e2
  rw [f3, f5, u2, u3] at e3
  rw [f4, f6] at e4
  rw [f5] at s1
  rw [f6] at s2
  unfold hypercubelaw05_works.f
  rw [e1, Option.bind_some, e2, Option.bind_some, e3, Option.bind_some, e4, Option.bind_some, if_pos rfl, if_pos rfl, if_pos rfl, if_pos rfl]
  refine (if_pos ?_).trans ?_
  · rfl
  refine (if_pos ?_).trans ?_
  · rfl
  rw [s1, Option.bind_some, if_pos rfl, s2, Option.bind_some]
end Go.Proofs.Ytcniiabaloicoaa.Pure
