/-
PLAIN LAW: where two formulas have unlike values.
-/
import Derived.Test.YtfbcgjkagdbckaaDoorLawsT0
namespace Go.Proofs.YtfbcgjkagdbckaaDoor.Pure
open Go.RowKit Go.Proofs.YtfbcgjkagdbckaaDoor.XTr Go.Proofs.YtfbcgjkagdbckaaDoorW.PrintWords Go.Proofs.YtfbcgjkagdbckaaDoorW.PrintLast Go.Proofs.YtfbcgjkagdbckaaDoorW.PrintMore H

theorem withoutT (s : UInt32) : mask_Without.f (un s) (-1) = some (un (s &&& M24)) := by
  unfold mask_Without.f
  rw [show mask_dimension.f (-1) = some false from rfl, Option.bind_some, if_neg Bool.false_ne_true, show (16777215 : Int) = un M24 from rfl, un_and]
theorem dimsT_l0 (l : List C) (hl : l.length ≤ 1000000) : ∀ (d k i : Nat) (s : UInt32), i + d = l.length → d < k → formula_Dims.l0 k (un s) (LC l) (l.length : Int) (i : Int) = some (un (((l.drop i).foldl (fun s c => s ||| (c.1 ||| c.2)) s) &&& M24))
  | d, 0, _, _, _, hk => absurd hk (by omega)
  | 0, k + 1, i, s, hi, _ => by
    rw [formula_Dims.l0, if_neg (by omega), withoutT, Option.bind_some, List.drop_eq_nil_of_le (by omega)]
    rfl
  | d + 1, k + 1, i, s, hi, hk => by
    have hil : i < l.length := by omega
    have e2 : wrap64 ((i : Int) + 1) = ((i + 1 : Nat) : Int) := by
      unfold wrap64
      omega
    have e3 : Go.bits .or .u32 (un s) (Go.bits .or .u32 (ofC24 l[i]).f0 (ofC24 l[i]).f1) = un (s ||| (l[i].1 ||| l[i].2)) := by
      unfold ofC24
      rw [un_or, un_or]
    rw [formula_Dims.l0, if_pos (by omega), if_pos (by omega), if_pos (by rw [LC_len]; omega), rdC l i hil, e3, e2, dimsT_l0 l hl d k (i + 1) _ (by omega) (by omega), List.drop_eq_getElem_cons hil, List.foldl_cons]
theorem dimsT (l : List C) (k : Nat) (hl : l.length ≤ 1000000) (hk : l.length < k) : formula_Dims.f k (LC l) = some (un (dimsF l)) := by
  unfold formula_Dims.f
  rw [LC_len]
  exact dimsT_l0 l hl l.length k 0 0 (by omega) hk
/-! ### Where two have unlike values -/
/-- The k-th digit stands at the k-th of the dimensions. -/
def look : List Nat → (Nat → Nat) → Nat → Nat
  | [], _, _ => 0
  | a :: D, g, i => if a = i then g 0 else look D (fun k => g (k + 1)) i
theorem look_at : ∀ (D : List Nat) (g : Nat → Nat) (k : Nat) (h : k < D.length), D.Nodup → look D g D[k] = g k
  | [], _, _, h, _ => absurd h (by simp)
  | a :: D, g, 0, _, _ => by
    show look (a :: D) g a = g 0
    rw [look, if_pos rfl]
  | a :: D, g, k + 1, h, hD => by
    have h2 : k < D.length := by simpa using h
    have hne : a ≠ D[k] := fun e => (List.nodup_cons.1 hD).1 (e ▸ List.getElem_mem h2)
    show look (a :: D) g D[k] = g (k + 1)
    rw [look, if_neg hne]
    exact look_at D (fun k => g (k + 1)) k h2 (List.nodup_cons.1 hD).2
theorem look_set : ∀ (D : List Nat) (g : Nat → Nat) (x k i : Nat) (h : k < D.length), D.Nodup → look D (fun j => if j = k then x else g j) i = if D[k] = i then x else look D g i
  | [], _, _, _, _, h, _ => absurd h (by simp)
  | a :: D, g, x, 0, i, _, _ => by
    show look (a :: D) _ i = if a = i then x else look (a :: D) g i
    rw [look, look, if_pos rfl]
    by_cases h : a = i
    · rw [if_pos h, if_pos h]
    · rw [if_neg h, if_neg h, if_neg h]
      rfl
  | a :: D, g, x, k + 1, i, h, hD => by
    have h2 : k < D.length := by simpa using h
    have hne : D[k] ≠ a := fun e => (List.nodup_cons.1 hD).1 (e ▸ List.getElem_mem h2)
    have ih := look_set D (fun j => g (j + 1)) x k i h2 (List.nodup_cons.1 hD).2
    show look (a :: D) _ i = if D[k] = i then x else look (a :: D) g i
    rw [look, look]
    by_cases h3 : a = i
    · rw [if_pos h3, if_pos h3, if_neg (show ¬ 0 = k + 1 by omega), if_neg (fun e => hne (e.trans h3.symm))]
    · rw [if_neg h3, if_neg h3, ← ih]
      congr 1
      funext j
      by_cases hj : j = k
      · rw [if_pos hj, if_pos (by omega)]
      · rw [if_neg hj, if_neg (by omega)]
theorem look_out : ∀ (D : List Nat) (g : Nat → Nat) (i : Nat), i ∉ D → look D g i = 0
  | [], _, _, _ => rfl
  | a :: D, g, i, h => by
    rw [look, if_neg (fun e => h (by rw [e]; exact List.mem_cons_self ..))]
    exact look_out D _ i fun hm => h (List.mem_cons_of_mem _ hm)
theorem look_zero : ∀ (D : List Nat) (i : Nat), look D (fun _ => 0) i = 0
  | [], _ => rfl
  | a :: D, i => by
    rw [look]
    split
    · rfl
    · exact look_zero D i
/-- The values at hand: digit by digit. -/
def atF (D : List Nat) (size : Nat) (g : Nat → Nat) : List Int := (List.range size).map fun i => ((look D g i : Nat) : Int)
theorem atF_len (D : List Nat) (size : Nat) (g : Nat → Nat) : (atF D size g).length = size := by
  unfold atF
  rw [List.length_map, List.length_range]
theorem atF_get (D : List Nat) (size : Nat) (g : Nat → Nat) (i : Nat) (h : i < size) : (atF D size g)[i]? = some ((look D g i : Nat) : Int) := by
  unfold atF
  rw [List.getElem?_map, List.getElem?_range h]
  rfl
theorem atF_getD (D : List Nat) (size : Nat) (g : Nat → Nat) (i : Nat) (hs : ∀ x ∈ D, x < size) : (atF D size g).getD i 0 = ((look D g i : Nat) : Int) := by
  rw [List.getD_eq_getElem?_getD]
  by_cases h : i < size
  · rw [atF_get D size g i h]
    rfl
  · rw [List.getElem?_eq_none (by rw [atF_len]; omega), look_out D g i fun hm => h (hs i hm)]
    rfl
theorem atF_set (D : List Nat) (size : Nat) (g : Nat → Nat) (k x : Nat) (h : k < D.length) (hD : D.Nodup) (hs : ∀ x ∈ D, x < size) : (atF D size g).set D[k] (x : Int) = atF D size (fun j => if j = k then x else g j) := by
  refine List.ext_getElem? fun i => ?_
  by_cases hi : i < size
  · rw [atF_get _ _ _ i hi, look_set D g x k i h hD, List.getElem?_set]
    by_cases he : D[k] = i
    · rw [if_pos he, if_pos he, if_pos (by rw [atF_len]; exact hs _ (List.getElem_mem _))]
    · rw [if_neg he, if_neg he, atF_get _ _ _ i hi]
  · rw [List.getElem?_eq_none (by rw [List.length_set, atF_len]; omega), List.getElem?_eq_none (by rw [atF_len]; omega)]
theorem atF_zero (D : List Nat) (size : Nat) : List.replicate size (0 : Int) = atF D size (fun _ => 0) := by
  refine List.ext_getElem? fun i => ?_
  by_cases hi : i < size
  · rw [atF_get _ _ _ i hi, look_zero, List.getElem?_replicate, if_pos hi]
    rfl
  · rw [List.getElem?_eq_none (by rw [List.length_replicate]; omega), List.getElem?_eq_none (by rw [atF_len]; omega)]
def digs (n m : Nat) (j : Nat) : Nat := if j < m then n / 4 ^ j % 4 else 0
def tellG (f g : List C) (D : List Nat) (size : Nat) : Nat → Nat → List Int
  | 0, _ => []
  | d + 1, n => if valOf f (atv (atF D size (digs n D.length))) = valOf g (atv (atF D size (digs n D.length))) then tellG f g D size d (n + 1) else atF D size (digs n D.length)
def dimsFG (f g : List C) : List Nat := H.dims (dimsF f ||| dimsF g)
def sizeFG (f g : List C) : Nat := (dimsFG f g).getD ((dimsFG f g).length - 1) 0 + 1
def tellP (f g : List C) : List Int × Int :=
  if H.right f = true ∧ H.right g = true then (if 5 < (dimsFG f g).length then ([], 3) else (tellG f g (dimsFG f g) (sizeFG f g) (4 ^ (dimsFG f g).length) 0, 0)) else ([], 2)
theorem dims_nodup (x : UInt32) : (H.dims x).Nodup := List.Pairwise.filter _ List.nodup_range
theorem dims_asc (x : UInt32) : (H.dims x).Pairwise (· < ·) := List.Pairwise.filter _ List.pairwise_lt_range
theorem lt_size (f g : List C) : ∀ x ∈ dimsFG f g, x < sizeFG f g := by
  intro x hx
  obtain ⟨i, hi, rfl⟩ := List.getElem_of_mem hx
  have h := dims_asc (dimsF f ||| dimsF g)
  unfold sizeFG
  rw [List.getD_eq_getElem?_getD, List.getElem?_eq_getElem (by omega)]
  show _ < (dimsFG f g)[(dimsFG f g).length - 1] + 1
  rcases Nat.lt_or_ge i ((dimsFG f g).length - 1) with h1 | h1
  · have := List.pairwise_iff_getElem.1 h i ((dimsFG f g).length - 1) hi (by show _ < (dimsFG f g).length; omega) h1
    exact Nat.lt_succ_of_lt this
  · have e : i = (dimsFG f g).length - 1 := by omega
    subst e
    exact Nat.lt_succ_self _
theorem tell_l1 (f g : List C) (D : List Nat) (hD : D.Nodup) (size : Nat) (hs : ∀ x ∈ D, x < size) (hm : D.length ≤ 5) (last N : Int) (n : Nat) (R : Option (List Int × Int)) (K0 : Nat) : ∀ (d k i : Nat), i + d = D.length → K0 + d < k →
    (∀ k', K0 ≤ k' → ((truth_eval.f k' (LC f) (atF D size (digs n D.length))).bind fun t => (truth_eval.f k' (LC g) (atF D size (digs n D.length))).bind fun t' => if t = t' then truth_Tell.l0 k' (LC f) (LC g) (L D) last N (wrap64 ((n : Int) + 1)) else some (atF D size (digs n D.length), 0)) = R) →
    truth_Tell.l1 k (LC f) (LC g) (L D) last (n : Int) (atF D size (digs n i)) N (n : Int) (L D) (D.length : Int) (i : Int) = R
  | d, 0, _, _, hk, _ => absurd hk (by omega)
  | 0, k + 1, i, hi, hk, h => by
    obtain rfl : i = D.length := by omega
    rw [truth_Tell.l1, if_neg (by omega)]
    exact h k (by omega)
  | d + 1, k + 1, i, hi, hk, h => by
    have hil : i < D.length := by omega
    have e2 : wrap64 ((i : Int) + 1) = ((i + 1 : Nat) : Int) := by
      unfold wrap64
      omega
    have e3 : IntKind.u64.wrap (2 * IntKind.u64.wrap (i : Int)) = ((2 * i : Nat) : Int) := by
      rw [u64w i (by omega)]
      exact u64w (2 * i) (by omega)
    have e4 : Go.bits .and .i64 (shr .i64 (n : Int) ((2 * i : Nat) : Int)) 3 = ((n / 4 ^ i % 4 : Nat) : Int) := by
      rw [i64_and3]
      unfold shr
      rw [Int.toNat_natCast, show IntKind.i64.bits = 64 from rfl, Nat.min_eq_left (by omega), show ((2 : Int) ^ (2 * i)) = ((4 ^ i : Nat) : Int) by rw [Int.natCast_pow, Int.pow_mul]; rfl, ← Int.natCast_ediv, ← show ((4 : Nat) : Int) = 4 from rfl, ← Int.natCast_emod]
    have hsz := hs _ (List.getElem_mem hil)
    have e5 : (fun j => if j = i then n / 4 ^ i % 4 else digs n i j) = digs n (i + 1) := by
      funext j
      unfold digs
      by_cases h1 : j = i
      · subst h1
        rw [if_pos rfl, if_pos (by omega)]
      · rw [if_neg h1]
        by_cases h2 : j < i
        · rw [if_pos h2, if_pos (by omega)]
        · rw [if_neg h2, if_neg (by omega)]
    rw [truth_Tell.l1, if_pos (by omega), if_pos (by omega), if_pos (by rw [L_len]; omega), e3, if_pos (by omega), rdL D i hil, if_pos (by omega), if_pos (by rw [atF_len]; omega), e4, Int.toNat_natCast, atF_set D size _ i _ hil hD hs, e5, e2]
    exact tell_l1 f g D hD size hs hm last N n R K0 d k (i + 1) (by omega) (by omega) h
theorem tell_l0 (f g : List C) (hf : f.all ok = true) (hg : g.all ok = true) (hlf : f.length ≤ 10000) (hlg : g.length ≤ 10000) (D : List Nat) (hD : D.Nodup) (last : Nat) (hl : last < 1000) (hs : ∀ x ∈ D, x < last + 1) (hm : D.length ≤ 5) (N : Nat) (hN : N ≤ 1024) : ∀ (d k n : Nat), n + d = N → d * 10 + (f.length + g.length) * 60 + 70 < k →
    truth_Tell.l0 k (LC f) (LC g) (L D) (last : Int) (N : Int) (n : Int) = some (tellG f g D (last + 1) d n, 0)
  | d, 0, _, _, hk => absurd hk (by omega)
  | 0, k + 1, n, hi, hk => by
    rw [truth_Tell.l0, if_neg (by omega)]
    rfl
  | d + 1, k + 1, n, hi, hk => by
    have e2 : wrap64 ((n : Int) + 1) = ((n + 1 : Nat) : Int) := by
      unfold wrap64
      omega
    have e3 : wrap64 ((last : Int) + 1) = ((last + 1 : Nat) : Int) := by
      unfold wrap64
      omega
    rw [truth_Tell.l0, if_pos (by omega), e3, if_pos (by omega), Int.toNat_natCast, if_pos (by omega), L_len, atF_zero D (last + 1), show (fun _ => 0 : Nat → Nat) = digs n 0 by funext j; unfold digs; rw [if_neg (by omega)]]
    refine tell_l1 f g D hD (last + 1) hs hm _ _ n _ (d * 10 + (f.length + g.length) * 60 + 71) D.length k 0 (by omega) (by omega) fun k' hk' => ?_
    rw [evalL _ f k' hf hlf (by omega), Option.bind_some, evalL _ g k' hg hlg (by omega), Option.bind_some, e2]
    unfold tellG
    by_cases hv : valOf f (atv (atF D (last + 1) (digs n D.length))) = valOf g (atv (atF D (last + 1) (digs n D.length)))
    · rw [if_pos (by rw [hv]), if_pos hv]
      exact tell_l0 f g hf hg hlf hlg D hD last hl hs hm N hN d k' (n + 1) (by omega) (by omega)
    · rw [if_neg (fun e => hv (code_inj e)), if_neg hv]
theorem pow4 (m : Nat) (h : m ≤ 5) : 4 ^ m ≤ 1024 := Nat.le_trans (Nat.pow_le_pow_right (by omega) h) (by decide)
theorem shl4 (m : Nat) (h : m ≤ 5) : shl .i64 1 (IntKind.u64.wrap (2 * IntKind.u64.wrap (m : Int))) = ((4 ^ m : Nat) : Int) := by
  have : m = 0 ∨ m = 1 ∨ m = 2 ∨ m = 3 ∨ m = 4 ∨ m = 5 := by omega
  rcases this with rfl | rfl | rfl | rfl | rfl | rfl <;> decide
theorem TellL (f g : List C) (k : Nat) (hlf : f.length ≤ 10000) (hlg : g.length ≤ 10000) (hk : 10400 + (f.length + g.length) * 60 < k) : truth_Tell.f k (LC f) (LC g) = some (tellP f g) := by
  obtain ⟨k, rfl⟩ : ∃ m, k = m + 2 := ⟨k - 2, by omega⟩
  unfold truth_Tell.f tellP
  rw [rightL f _ (by omega) (by omega), Option.bind_some]
  by_cases hf : H.right f = true
  · rw [if_pos hf, rightL g _ (by omega) (by omega), Option.bind_some]
    by_cases hg : H.right g = true
    · rw [if_pos ⟨hf, hg⟩, hg, truth_Tell.j0, if_neg (by decide), dimsT f _ (by omega) (by omega), Option.bind_some, dimsT g _ (by omega) (by omega), Option.bind_some, un_or, listT, Option.bind_some]
      have hsz := lt_size f g
      unfold sizeFG at hsz ⊢
      unfold dimsFG at hsz ⊢
      have hnd := dims_nodup (dimsF f ||| dimsF g)
      have hlt := dims24 (dimsF f ||| dimsF g)
      generalize H.dims (dimsF f ||| dimsF g) = D at *
      rw [L_len]
      by_cases h5 : 5 < D.length
      · rw [if_pos (by omega), if_pos h5]
      · rw [if_neg (by omega), if_neg h5]
        have hp := pow4 D.length (by omega)
        have key : truth_Tell.j1 (k + 1) (LC f) (LC g) (L D) ((D.getD (D.length - 1) 0 : Nat) : Int) = some (tellG f g D (D.getD (D.length - 1) 0 + 1) (4 ^ D.length) 0, 0) := by
          have h24 : D.getD (D.length - 1) 0 < 24 := by
            rw [List.getD_eq_getElem?_getD]
            by_cases h0 : 0 < D.length
            · rw [List.getElem?_eq_getElem (by omega)]
              exact hlt _ (List.getElem_mem _)
            · rw [List.getElem?_eq_none (by omega)]
              decide
          rw [truth_Tell.j1, L_len, if_pos (by rw [u64w D.length (by omega), show (2 : Int) * (D.length : Int) = ((2 * D.length : Nat) : Int) by omega, u64w _ (by omega)]; omega), shl4 _ (by omega)]
          exact tell_l0 f g (right_ok hf) (right_ok hg) hlf hlg D hnd _ (by omega) hsz (by omega) _ hp (4 ^ D.length) k 0 (by omega) (by omega)
        by_cases h0 : 0 < D.length
        · have e : wrap64 ((D.length : Int) - 1) = ((D.length - 1 : Nat) : Int) := by
            unfold wrap64
            omega
          rw [if_pos (by omega), e, if_pos (by omega), if_pos (by omega), rdL D _ (by omega)]
          have e2 : D.getD (D.length - 1) 0 = D[D.length - 1] := by
            rw [List.getD_eq_getElem?_getD, List.getElem?_eq_getElem (by omega)]
            rfl
          rw [e2] at key ⊢
          exact key
        · rw [if_neg (by omega)]
          have e2 : D.getD (D.length - 1) 0 = 0 := by
            rw [List.getD_eq_getElem?_getD, List.getElem?_eq_none (by omega)]
            rfl
          rw [e2] at key ⊢
          exact key
    · rw [if_neg (fun h => hg h.2), show H.right g = false by simpa using hg, truth_Tell.j0]
      rfl
  · rw [if_neg hf, if_neg (fun h => hf h.1), truth_Tell.j0]
    rfl
end Go.Proofs.YtfbcgjkagdbckaaDoor.Pure
