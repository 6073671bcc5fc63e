/-
PLAIN LAW: the statement FormulaSelf.
-/
import Derived.Test.YthphgilelpmfhaaDoorLawsF3
namespace Go.Proofs.YthphgilelpmfhaaDoor.Pure
open Go.RowKit Go.Proofs.YthphgilelpmfhaaDoor.XFb Go.Proofs.YthphgilelpmfhaaDoorW.PrintWords Go.Proofs.YthphgilelpmfhaaDoorW.PrintLast Go.Proofs.YthphgilelpmfhaaDoorW.PrintMore H

theorem dims_l0 (l : List C) (hl : l.length ≤ 1000000) : ∀ (d k i : Nat) (s : UInt32), i + d = l.length → d < k → formula_Dims.l0 k (un s) (LC l) (l.length : Int) (i : Int) = some (un (((l.drop i).foldl (fun s c => s ||| (c.1 ||| c.2)) s) &&& M24))
  | d, 0, _, _, _, hk => absurd hk (by omega)
  | 0, k + 1, i, s, hi, _ => by
    rw [formula_Dims.l0, if_neg (by omega), without24, Option.bind_some, List.drop_eq_nil_of_le (by omega)]
    unfold wo
    rw [if_neg (by decide)]
    rfl
  | d + 1, k + 1, i, s, hi, hk => by
    have hil : i < l.length := by omega
    have e2 : wrap64 ((i : Int) + 1) = ((i + 1 : Nat) : Int) := by
      unfold wrap64
      omega
    have e3 : Go.bits .or .u32 (un s) (Go.bits .or .u32 (ofC24 l[i]).f0 (ofC24 l[i]).f1) = un (s ||| (l[i].1 ||| l[i].2)) := by
      unfold ofC24
      rw [un_or, un_or]
    rw [formula_Dims.l0, if_pos (by omega), if_pos (by omega), if_pos (by rw [LC_len]; omega), rdC l i hil, e3, e2, dims_l0 l hl d k (i + 1) _ (by omega) (by omega), List.drop_eq_getElem_cons hil, List.foldl_cons]
theorem dimsL (l : List C) (k : Nat) (hl : l.length ≤ 1000000) (hk : l.length < k) : formula_Dims.f k (LC l) = some (un (dimsF l)) := by
  unfold formula_Dims.f
  rw [LC_len]
  exact dims_l0 l hl l.length k 0 0 (by omega) hk
theorem bit_zero {i : Int} (hd : dimI i = true) (l : List C) (_hl : l.all ok = true) : (Go.bits .and .u32 (un (dimsF l)) (shl .u32 1 (IntKind.u64.wrap i)) = 0) ↔ freeI i l := by
  have h24 := of_decide_eq_true hd
  rw [u64_dim24 hd, shl24 hd, un_and, un_zero, un_inj]
  have key : dimsF l &&& H.one i.toNat = 0 ↔ tb (dimsF l) i.toNat = false := by
    constructor
    · intro h
      have h1 := tb_and (dimsF l) (H.one i.toNat) i.toNat
      rw [h, tb_zero, tb_one (by omega)] at h1
      simpa using h1.symm
    · intro h
      refine tb_ext fun j => ?_
      rw [tb_and, tb_zero, tb_one (by omega)]
      by_cases hj : i.toNat = j
      · subst hj
        rw [h]
        rfl
      · simp [hj]
  rw [key, tb_dimsF, decide_eq_true (by omega), Bool.true_and, List.any_eq_false]
  unfold freeI
  constructor
  · intro h c hc
    have := h c hc
    rw [hasI_eq hd, hasI_eq hd]
    simpa using this
  · intro h c hc
    obtain ⟨h1, h2⟩ := h c hc
    rw [hasI_eq hd] at h1 h2
    rw [h1, h2]
    simp
theorem FormulaSelf (f : List C) (i : Int) (_wi : (Lit.int .i64 i).wf = true) (r : List C) : ∃ k, hypercubelaw03_FormulaSelf.f k (LC f) i (LC r) = some true := by
  obtain ⟨k, hk⟩ : ∃ k, k = 200 := ⟨_, rfl⟩
  refine ⟨k + 3, ?_⟩
  have j0t : hypercubelaw03_FormulaSelf.j0 (k + 3) (LC f) i (LC r) true = some true := by
    rw [hypercubelaw03_FormulaSelf.j0, if_pos rfl]
  unfold hypercubelaw03_FormulaSelf.f
  rw [works _ (by omega), Option.bind_some, if_pos rfl]
  by_cases h1 : f.length > 20
  · rw [if_pos (by rw [LC_len]; omega)]
    exact j0t
  rw [if_neg (by rw [LC_len]; omega)]
  by_cases h2 : r.length > 20
  · rw [if_pos (by rw [LC_len]; omega)]
    exact j0t
  rw [if_neg (by rw [LC_len]; omega), rightL f _ (by omega) (by omega), Option.bind_some]
  cases hf : H.right f
  · rw [if_neg (by simp)]; exact j0t
  rw [if_pos rfl, rightL r _ (by omega) (by omega), Option.bind_some]
  cases hr : H.right r
  · rw [if_neg (by simp)]; exact j0t
  rw [if_pos rfl]
  by_cases h3 : i < 0
  · rw [if_pos h3]; exact j0t
  rw [if_neg h3]
  by_cases h4 : i ≥ 24
  · rw [decide_eq_true h4]; exact j0t
  have hd : dimI i = true := decide_eq_true (by omega)
  have hfd : fDim i = ([dimC i], 0) := by
    unfold fDim
    rw [hd, if_pos rfl]
  have hps : fPut f i [dimC i] = (f, 0) := by
    unfold fPut
    rw [if_pos ⟨hf, right_one (ok_dim hd)⟩, if_pos hd, put_self_eq hf hd]
  have hpr : fPut f i r = putF f i r := by
    unfold fPut
    rw [if_pos ⟨hf, hr⟩, if_pos hd]
  rw [decide_eq_false h4, hypercubelaw03_FormulaSelf.j0, if_neg (by simp), fdim24, hfd, Option.bind_some]
  show (formula_Put.f (LC f) i (LC [dimC i])).bind _ = _
  rw [putL f i [dimC i] (by omega) (by simp), hps, Option.bind_some, if_pos rfl, if_pos rfl]
  show (hypercuberef02_Same.f (k + 2) (LC f) (LC f)).bind _ = _
  rw [same _ _ (by omega) (by omega), Option.bind_some]
  show hypercubelaw03_FormulaSelf.j1 (k + 2) (LC f) i (LC r) false = _
  have l1 := putF_len f i r
  obtain ⟨p1, p2⟩ := putF_facts hd (f := f) (ok_of_right hr)
  rw [hypercubelaw03_FormulaSelf.j1, if_neg (by simp), putL f i r (by omega) (by omega), hpr, Option.bind_some]
  by_cases he : (putF f i r).2 = 0
  · obtain ⟨q1, _⟩ := p2 he
    have hfree := put_free (r := r) hf (ok_of_right hr) hd (h := he)
    have hfp := fun hn => freeI_put (f := f) (r := r) hd hn
    generalize putF f i r = R at *
    have h24 : (0 : Int) ≤ IntKind.u64.wrap i := by rw [u64_dim24 hd]; omega
    rw [if_pos he, if_pos h24, dimsL r _ (by omega) (by omega), Option.bind_some]
    have j2f : hypercubelaw03_FormulaSelf.j2 (k + 1) (LC f) (LC R.1) (shl .u32 1 (IntKind.u64.wrap i)) false = some true := by
      rw [hypercubelaw03_FormulaSelf.j2, if_neg (by simp), dimsL f _ (by omega) (by omega), Option.bind_some]
      by_cases hz : Go.bits .and .u32 (un (dimsF f)) (shl .u32 1 (IntKind.u64.wrap i)) = 0
      · rw [if_pos hz, hfree ((bit_zero hd f (ok_of_right hf)).1 hz), same _ _ (by omega) (by omega), Option.bind_some]
      · rw [if_neg hz]
    by_cases hz : Go.bits .and .u32 (un (dimsF r)) (shl .u32 1 (IntKind.u64.wrap i)) = 0
    · have hy := (bit_zero hd R.1 (ok_of_right q1)).2 (hfp ((bit_zero hd r (ok_of_right hr)).1 hz))
      rw [if_pos hz, dimsL R.1 _ (by omega) (by omega), Option.bind_some, hy]
      exact j2f
    · rw [if_neg hz]
      exact j2f
  · obtain ⟨e1, e2⟩ := p1 he
    rw [if_neg he, if_pos e1, e2]
    rfl
end Go.Proofs.YthphgilelpmfhaaDoor.Pure
