/-
PLAIN LAW: the statement FaceRestricts.
-/
import Derived.Test.YtahbmjpgnfgklaaXFpx
import Derived.Test.YtahbmjpgnfgklaaFaceT
namespace Go.Proofs.Ytahbmjpgnfgklaa.Pure
open Go.RowKit Go.Proofs.Ytahbmjpgnfgklaa.XFp Go.Proofs.YtahbmjpgnfgklaaW.PrintWords Go.Proofs.YtahbmjpgnfgklaaW.PrintLast Go.Proofs.YtahbmjpgnfgklaaW.PrintMore H

def LC (l : List C) : List S24 := l.map ofC24
theorem LC_len (l : List C) : (LC l).length = l.length := List.length_map ..
theorem okLC {l : List C} (h : l.length ≤ 1000000) : okL24 (LC l) := ⟨by unfold LC; rw [List.all_map, List.all_eq_true]; intro c _; rw [Function.comp_apply, inR_ofC24], by rw [LC_len]; exact h⟩
theorem backLC (l : List C) : (LC l).map toC24 = l := by
  unfold LC
  rw [List.map_map]
  refine (List.map_congr_left (g := id) fun c _ => ?_).trans (List.map_id _)
  rw [Function.comp_apply, toC_ofC24]
  rfl
theorem rdC (l : List C) (i : Nat) (h : i < l.length) : rd_T24 (LC l) (i : Int) = ofC24 l[i] := by
  unfold rd_T24 LC
  rw [Int.toNat_natCast, List.getD_eq_getElem?_getD, List.getElem?_map, List.getElem?_eq_getElem h]
  rfl
theorem rightL (l : List C) (h : l.length ≤ 1000000) : face_Right.f (LC l) = some (faceR l) := by
  unfold face_Right.f
  rw [if_pos (okLC h), backLC]
theorem ofL (l : List C) (h : l.length ≤ 1000000) : face_Of.f (LC l) = some (LC (ofF l).1, (ofF l).2) := by
  unfold face_Of.f
  rw [if_pos (okLC h), backLC]
  rfl
theorem allL (l : List C) (i : Int) (h : l.length ≤ 1000000) : face_All.f (LC l) i = some (LC (allF l i).1, (allF l i).2) := by
  unfold face_All.f
  rw [if_pos (okLC h), backLC]
  rfl
theorem restrL (l : List C) (c : C) (h : l.length ≤ 1000000) : face_Restrict.f (LC l) (un c.1) (un c.2) = some (LC (restrF l c).1, (restrF l c).2) := by
  have h2 : toC24 ⟨un c.1, un c.2⟩ = c := toC_ofC24 c
  unfold face_Restrict.f
  rw [if_pos ⟨okLC h, inR_ofC24 c⟩, backLC, h2]
  rfl
theorem holdsL (l : List C) (c : C) (h : l.length ≤ 1000000) : face_Holds.f (LC l) (un c.1) (un c.2) = some (holdF l c) := by
  have h2 : toC24 ⟨un c.1, un c.2⟩ = c := toC_ofC24 c
  unfold face_Holds.f
  rw [if_pos ⟨okLC h, inR_ofC24 c⟩, backLC, h2]
theorem same_l0 (l : List C) (hl : l.length < 4611686018427387904) : ∀ (d k i : Nat), i + d = l.length → d < k → hypercuberef02_Same.l0 k (LC l) (LC l) (i : Int) = some true
  | d, 0, _, _, hk => absurd hk (by omega)
  | 0, k + 1, i, hi, _ => by
    rw [hypercuberef02_Same.l0, if_neg (by rw [LC_len]; omega)]
  | d + 1, k + 1, i, hi, hk => by
    have e2 : wrap64 ((i : Int) + 1) = ((i + 1 : Nat) : Int) := by
      unfold wrap64
      omega
    rw [hypercuberef02_Same.l0, if_pos (by rw [LC_len]; omega), if_pos (by omega), if_pos (by rw [LC_len]; omega), if_neg (by simp), e2]
    exact same_l0 l hl d k (i + 1) (by omega) (by omega)
theorem same (l : List C) (k : Nat) (hl : l.length < 4611686018427387904) (hk : l.length < k) : hypercuberef02_Same.f k (LC l) (LC l) = some true := by
  unfold hypercuberef02_Same.f
  rw [if_pos rfl]
  exact same_l0 l hl l.length k 0 (by omega) hk

theorem works (k : Nat) (hk : 5 ≤ k) : hypercubelaw05_works.f k = some true := by
  obtain ⟨k, rfl⟩ : ∃ j, k = j + 5 := ⟨k - 5, by omega⟩
  have e1 := ofL [(0, 2), (1, 0)] (by decide)
  have e2 := ofL [(1, 1)] (by decide)
  have e3 := restrL [(1, 2), (4, 0)] (1, 0) (by decide)
  have e4 := allL [(0, 1), (1, 0), (2, 0)] 0 (by decide)
  rw [ex1] at e1
  rw [ex2] at e2
  rw [ex3] at e3
  rw [ex4] at e4
  have s1 := same [(0, 2), (4, 0)] (k + 5) (by decide) (by simp)
  have s2 := same [(2, 0)] (k + 5) (by decide) (by simp)
  have f1 : LC [(0, 2), (1, 0)] = [⟨0, 2⟩, ⟨1, 0⟩] := rfl
  have f2 : LC [(1, 1)] = [⟨1, 1⟩] := rfl
  have f3 : LC [(1, 2), (4, 0)] = [⟨1, 2⟩, ⟨4, 0⟩] := rfl
  have f4 : LC [(0, 1), (1, 0), (2, 0)] = [⟨0, 1⟩, ⟨1, 0⟩, ⟨2, 0⟩] := rfl
  have f5 : LC [(0, 2), (4, 0)] = [⟨0, 2⟩, ⟨4, 0⟩] := rfl
  have f6 : LC [(2, 0)] = [⟨2, 0⟩] := rfl
  have u1 : un (1, 0).1 = 1 := rfl
  have u2 : un ((1, 0) : C).2 = 0 := rfl
  have u3 : un ((1, 0) : C).1 = 1 := rfl
  rw [f1] at e1
  rw [f2] at e2
  rw [f3, f5, u2, u3] at e3
  rw [f4, f6] at e4
  rw [f5] at s1
  rw [f6] at s2
  unfold hypercubelaw05_works.f
  rw [e1, Option.bind_some, e2, Option.bind_some, e3, Option.bind_some, e4, Option.bind_some, if_pos rfl, if_pos rfl, if_pos rfl, if_pos rfl]
  refine (if_pos ?_).trans ?_
  · rfl
  refine (if_pos ?_).trans ?_
  · rfl
  rw [s1, Option.bind_some, if_pos rfl, s2, Option.bind_some]
theorem l0 (f r : List C) (c d : C) (hfl : f.length ≤ 1000000) (hrl : r.length ≤ 1000000) (hr : ∀ x ∈ r, (x.1 ||| x.2) &&& (c.1 ||| c.2) = 0) (b : Bool) (h1 : holdF f (meet c d) = (b, 0)) (h2 : holdF r d = (b, 0)) :
    ∀ (n k i : Nat), i + n = r.length → n < k → hypercubelaw05_FaceRestricts.l0 k (LC f) (LC r) (LC r) (r.length : Int) (i : Int) (un c.1) (un c.2) (un d.1) (un d.2) = some true
  | n, 0, _, _, hk => absurd hk (by omega)
  | 0, k + 1, i, hi, _ => by
    rw [hypercubelaw05_FaceRestricts.l0, if_neg (by omega), meetx24, Option.bind_some]
    show (face_Holds.f (LC f) (un (meet c d).1) (un (meet c d).2)).bind _ = _
    rw [holdsL f _ hfl, Option.bind_some, holdsL r _ hrl, Option.bind_some, h1, h2, if_pos rfl, if_pos rfl]
    cases b <;> rfl
  | n + 1, k + 1, i, hi, hk => by
    have hir : i < r.length := by omega
    have e2 : wrap64 ((i : Int) + 1) = ((i + 1 : Nat) : Int) := by
      unfold wrap64
      omega
    have hz : Go.bits .and .u32 (Go.bits .or .u32 (ofC24 r[i]).f0 (ofC24 r[i]).f1) (Go.bits .or .u32 (un c.1) (un c.2)) = 0 := by
      unfold ofC24
      rw [un_or, un_or, un_and, hr r[i] (List.getElem_mem _)]
      rfl
    rw [hypercubelaw05_FaceRestricts.l0, if_pos (by omega), if_pos (by omega), if_pos (by rw [LC_len]; omega), rdC r i hir, if_pos hz, e2]
    exact l0 f r c d hfl hrl hr b h1 h2 n k (i + 1) (by omega) (by omega)
theorem FaceRestricts (f : List C) (c d : C) : ∃ k, hypercubelaw05_FaceRestricts.f k (LC f) (un c.1) (un c.2) (un d.1) (un d.2) = some true := by
  obtain ⟨k, hk⟩ : ∃ k, k = 100 := ⟨_, rfl⟩
  refine ⟨k + 2, ?_⟩
  have j0t : hypercubelaw05_FaceRestricts.j0 (k + 2) (LC f) true (un c.1) (un c.2) (un d.1) (un d.2) = some true := by
    rw [hypercubelaw05_FaceRestricts.j0, if_pos rfl]
  unfold hypercubelaw05_FaceRestricts.f
  rw [works _ (by omega), Option.bind_some, if_pos rfl]
  unfold hypercubelaw05_great.f
  by_cases h24 : f.length > 24
  · rw [if_pos (by rw [LC_len]; omega), Option.bind_some, if_pos rfl]
    exact j0t
  rw [if_neg (by rw [LC_len]; omega), Option.bind_some, if_neg (by simp), rightL f (by omega), Option.bind_some]
  cases hf : faceR f
  · rw [if_neg (by simp)]; exact j0t
  rw [if_pos rfl, right24, Option.bind_some]
  cases hc : H.ok c
  · rw [if_neg (by simp)]; exact j0t
  rw [if_pos rfl, right24, Option.bind_some]
  cases hd : H.ok d
  · rw [if_neg (by simp)]; exact j0t
  rw [if_pos rfl, meetx24, Option.bind_some]
  show (clause_Clash.f (un (meet c d).1) (un (meet c d).2)).bind _ = _
  rw [clash24, Option.bind_some]
  cases hcd : H.clash (meet c d)
  rotate_left
  · exact j0t
  have hmem : ∀ x ∈ keepC (restrP c) f, ok x = true ∧ H.clash x = false ∧ (x.1 ||| x.2) &&& (c.1 ||| c.2) = 0 := fun x hx => restr_mem hf hx
  have hlen := keepC_length (restrP c) f
  have ht : (least (keepC (restrP c) f)).2 = 0 := least_told (List.all_eq_true.2 fun x hx => (hmem x hx).1) (by omega)
  have hcc := clash_left hcd
  have hdd := clash_right hcd
  have hrf : restrF f c = least (keepC (restrP c) f) := by
    unfold restrF
    rw [if_pos ⟨hf, by rw [hc, hcc]; rfl⟩]
  have hfr : faceR (least (keepC (restrP c) f)).1 = true := faceR_iff.2 ⟨right_least ht, fun x hx => (hmem x (least_sub ht hx)).2.1⟩
  have h64 := least_len24 (keepC (restrP c) f)
  have hH1 : holdF f (meet c d) = (E f (meet c d), 0) := by
    unfold holdF
    rw [if_pos ⟨hf, by rw [ok_meet, hc, hd, hcd]; rfl⟩]
    rfl
  have hH2 : holdF (least (keepC (restrP c) f)).1 d = (E f (meet c d), 0) := by
    unfold holdF
    rw [if_pos ⟨hfr, by rw [hd, hdd]; rfl⟩, ← restr_E hcd, ← E_least ht]
    rfl
  have hr := fun x hx => (hmem x (least_sub ht hx)).2.2
  rw [hypercubelaw05_FaceRestricts.j0, if_neg (by simp), restrL f c (by omega), Option.bind_some, hrf, if_pos ht, rightL _ (by omega), Option.bind_some, hfr, hypercubelaw05_FaceRestricts.j1, if_neg (by simp), LC_len]
  exact l0 f (least (keepC (restrP c) f)).1 c d (by omega) (by omega) hr _ hH1 hH2 (least (keepC (restrP c) f)).1.length k 0 (by omega) (by omega)
end Go.Proofs.Ytahbmjpgnfgklaa.Pure
