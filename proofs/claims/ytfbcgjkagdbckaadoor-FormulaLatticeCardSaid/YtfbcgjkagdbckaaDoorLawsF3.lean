/-
PLAIN LAW: what the statements on formulas have in common: the chapter's example.
-/
import Derived.Test.YtfbcgjkagdbckaaDoorXFlx
import Derived.Test.YtfbcgjkagdbckaaDoorFw
namespace Go.Proofs.YtfbcgjkagdbckaaDoor.Pure
open Go.RowKit Go.Proofs.YtfbcgjkagdbckaaDoor.XFl Go.Proofs.YtfbcgjkagdbckaaDoorW.PrintWords Go.Proofs.YtfbcgjkagdbckaaDoorW.PrintLast Go.Proofs.YtfbcgjkagdbckaaDoorW.PrintMore H

theorem wrap64_small {n : Int} (h1 : -9223372036854775808 ≤ n) (h2 : n < 9223372036854775808) : wrap64 n = n := by
  unfold wrap64
  omega
theorem u64w (n : Nat) (h : n < 18446744073709551616) : IntKind.u64.wrap (n : Int) = (n : Int) := by
  rw [IntKind.wrap_u64]
  omega
def LC (l : List C) : List S60 := l.map ofC24
theorem LC_len (l : List C) : (LC l).length = l.length := List.length_map ..
theorem LC_append (a b : List C) : LC (a ++ b) = LC a ++ LC b := List.map_append ..
theorem rdC (l : List C) (i : Nat) (h : i < l.length) : rd_T60 (LC l) (i : Int) = ofC24 l[i] := by
  unfold rd_T60 LC
  rw [Int.toNat_natCast, List.getD_eq_getElem?_getD, List.getElem?_map, List.getElem?_eq_getElem h]
  rfl
theorem backLC (l : List C) : (LC l).map toC24 = l := by
  unfold LC
  rw [List.map_map]
  refine (List.map_congr_left (g := id) fun c _ => ?_).trans (List.map_id _)
  rw [Function.comp_apply, toC_ofC24]
  rfl
theorem okLC {l : List C} (h : l.length ≤ 1000000) : okL24 (LC l) := ⟨by unfold LC; rw [List.all_map, List.all_eq_true]; intro c _; rw [Function.comp_apply, inR_ofC24], by rw [LC_len]; exact h⟩
theorem wf_u32 {a : Int} (h : (Lit.int .u32 a).wf = true) : ∃ n : Nat, a = n ∧ n < 4294967296 := by
  have h' : 0 ≤ a ∧ a ≤ 4294967295 := by simpa [Lit.wf, IntKind.min, IntKind.max, IntKind.bits, IntKind.signed] using h
  exact ⟨a.toNat, by omega, by omega⟩
theorem wf_i64 {a : Int} (h : (Lit.int .i64 a).wf = true) : -9223372036854775808 ≤ a ∧ a < 9223372036854775808 := by
  have h' : -9223372036854775808 ≤ a ∧ a ≤ 9223372036854775807 := by simpa [Lit.wf, IntKind.min, IntKind.max, IntKind.bits, IntKind.signed] using h
  omega

def L (l : List Nat) : List Int := l.map fun i : Nat => (i : Int)
theorem L_len (l : List Nat) : (L l).length = l.length := List.length_map ..
theorem rd_mid (pre post : List Nat) (a : Nat) : rd (L (pre ++ a :: post)) (pre.length : Int) = (a : Int) := by
  unfold rd L
  simp
theorem set_mid (pre post : List Nat) (a b : Nat) : (L (pre ++ a :: post)).set ((pre.length : Int)).toNat (b : Int) = L (pre ++ b :: post) := by
  unfold L
  rw [Int.toNat_natCast, List.map_append, List.map_append, List.set_append]
  simp
theorem same_l0 (a b : List C) (hab : a.length = b.length) (hl : a.length < 4611686018427387904) : ∀ (d k i : Nat), i + d = a.length → d < k → a.take i = b.take i → hypercuberef02_Same.l0 k (LC a) (LC b) (i : Int) = some (decide (a = b))
  | d, 0, _, _, hk, _ => absurd hk (by omega)
  | 0, k + 1, i, hi, _, ht => by
    have e : a = b := by rw [← List.take_of_length_le (l := a) (i := i) (by omega), ht, List.take_of_length_le (by omega)]
    rw [hypercuberef02_Same.l0, if_neg (by rw [LC_len]; omega), decide_eq_true e]
  | d + 1, k + 1, i, hi, hk, ht => by
    have hia : i < a.length := by omega
    have hib : i < b.length := by omega
    have e2 : wrap64 ((i : Int) + 1) = ((i + 1 : Nat) : Int) := by
      unfold wrap64
      omega
    rw [hypercuberef02_Same.l0, if_pos (by rw [LC_len]; omega), if_pos (by omega), if_pos (by rw [LC_len]; omega), rdC a i hia, rdC b i hib]
    have hq : (!((ofC24 a[i]).f0 == (ofC24 b[i]).f0) || !((ofC24 a[i]).f1 == (ofC24 b[i]).f1)) = !decide (a[i] = b[i]) := by
      unfold ofC24
      rw [un_beq, un_beq, Bool.eq_iff_iff]
      simp [Prod.ext_iff]
    rw [hq, e2]
    by_cases hc : a[i] = b[i]
    · rw [if_neg (by simp [hc])]
      refine same_l0 a b hab hl d k (i + 1) (by omega) (by omega) ?_
      rw [List.take_succ_eq_append_getElem hia, List.take_succ_eq_append_getElem hib, ht, hc]
    · rw [if_pos (by simp [hc]), decide_eq_false (fun e => hc (by subst e; rfl))]
theorem sameL (a b : List C) (k : Nat) (hl : a.length < 4611686018427387904) (hk : a.length < k) : hypercuberef02_Same.f k (LC a) (LC b) = some (decide (a = b)) := by
  unfold hypercuberef02_Same.f
  rw [LC_len, LC_len]
  by_cases h : a.length = b.length
  · rw [if_pos (by omega)]
    exact same_l0 a b h hl a.length k 0 (by omega) hk rfl
  · rw [if_neg (by omega), decide_eq_false (fun e => h (by rw [e]))]
theorem same (l : List C) (k : Nat) (hl : l.length < 4611686018427387904) (hk : l.length < k) : hypercuberef02_Same.f k (LC l) (LC l) = some true := by
  rw [sameL l l k hl hk, decide_eq_true rfl]
theorem joinL (f g : List C) (hf : f.length ≤ 100) (hg : g.length ≤ 100) : formula_Join.f (LC f) (LC g) = some (LC (fJoin f g).1, (fJoin f g).2) := by
  unfold formula_Join.f
  rw [if_pos ⟨okLC (by omega), okLC (by omega), by rw [LC_len, LC_len]; omega⟩, backLC, backLC]
  rfl
theorem meetL (f g : List C) (hf : f.length ≤ 100) (hg : g.length ≤ 100) : formula_Meet.f (LC f) (LC g) = some (LC (fMeet f g).1, (fMeet f g).2) := by
  have h : f.length * g.length ≤ 100 * 100 := Nat.mul_le_mul hf hg
  unfold formula_Meet.f
  rw [if_pos ⟨okLC (by omega), okLC (by omega), by rw [LC_len, LC_len]; omega⟩, backLC, backLC]
  rfl
theorem notL (f : List C) (hf : f.length ≤ 100) : formula_Not.f (LC f) = some (LC (fNot f).1, (fNot f).2) := by
  unfold formula_Not.f
  rw [if_pos (okLC (by omega)), backLC]
  rfl
theorem putL (f : List C) (i : Int) (r : List C) (hf : f.length ≤ 100) (hr : r.length ≤ 100) : formula_Put.f (LC f) i (LC r) = some (LC (fPut f i r).1, (fPut f i r).2) := by
  unfold formula_Put.f
  rw [if_pos ⟨okLC (by omega), okLC (by omega)⟩, backLC, backLC]
  rfl
theorem rightL (f : List C) (k : Nat) (hf : f.length ≤ 1000000) (hk : 64 < k) : formula_Right.f k (LC f) = some (H.right f) := fright24 f k hf hk
theorem toldL (l : List S60) (e : Int) : hypercubelaw03_told.f l e = some (l, e == 0) := rfl
theorem works (k : Nat) (hk : 5 ≤ k) : hypercubelaw03_works.f k = some true := by
  have e1 := fdim24 0
  have e2 := notL [(3, 0)] (by decide)
  have e3 := meetL [(1, 0)] [(0, 1)] (by decide) (by decide)
  have e4 := putL [(0, 1), (1, 0)] 0 [] (by decide) (by decide)
  rw [w_dim] at e1
  rw [w_not] at e2
  rw [w_meet] at e3
  rw [w_put] at e4
  have s1 := same [(0, 1), (0, 2)] k (by decide) (by simp; omega)
  have s2 := same [(1, 1)] k (by decide) (by simp; omega)
  have s3 := same [(0, 0)] k (by decide) (by simp; omega)
  have f1 : LC [(1, 0)] = [⟨1, 0⟩] := rfl
  have f2 : LC [(3, 0)] = [⟨3, 0⟩] := rfl
  have f3 : LC [(0, 1)] = [⟨0, 1⟩] := rfl
  have f4 : LC [(0, 1), (1, 0)] = [⟨0, 1⟩, ⟨1, 0⟩] := rfl
  have f5 : LC [(0, 1), (0, 2)] = [⟨0, 1⟩, ⟨0, 2⟩] := rfl
  have f6 : LC [(1, 1)] = [⟨1, 1⟩] := rfl
  have f7 : LC [(0, 0)] = [⟨0, 0⟩] := rfl
  have f8 : LC [] = [] := rfl
  have f9 : ([((1 : UInt32), (0 : UInt32))] : List C).map ofC24 = [⟨1, 0⟩] := rfl
  rw [f2, f5] at e2
  rw [f1, f3, f6] at e3
  rw [f4, f7, f8] at e4
  rw [f5] at s1
  rw [f6] at s2
  rw [f7] at s3
  unfold hypercubelaw03_works.f
  rw [e1, Option.bind_some, e2, Option.bind_some, f9, e3, Option.bind_some, e4, Option.bind_some, if_pos rfl, if_pos rfl, if_pos rfl, if_pos rfl, s1, Option.bind_some, if_pos rfl, s2, Option.bind_some, if_pos rfl]
  unfold formula_One.f
  rw [Option.bind_some, s3, Option.bind_some, if_pos rfl]
  unfold formula_Zero.f
  rfl
end Go.Proofs.YtfbcgjkagdbckaaDoor.Pure
