/-
PLAIN LAW: what the walks of truth compute (values, and where two formulas have unlike ones).
-/
import Derived.Laws.BitsAllLaws
import Derived.Test.YtfbcgjkagdbckaaDoorNat
import Derived.Test.YtfbcgjkagdbckaaDoorTp
import Derived.Test.YtfbcgjkagdbckaaDoorFw
import Derived.Test.YtfbcgjkagdbckaaDoorXTfx
namespace Go.Proofs.YtfbcgjkagdbckaaDoor.Pure
open Go.RowKit Go.Proofs.YtfbcgjkagdbckaaDoor.XTf Go.Proofs.YtfbcgjkagdbckaaDoorW.PrintWords Go.Proofs.YtfbcgjkagdbckaaDoorW.PrintLast Go.Proofs.YtfbcgjkagdbckaaDoorW.PrintMore H

theorem wrap64_small {n : Int} (h1 : -9223372036854775808 ≤ n) (h2 : n < 9223372036854775808) : wrap64 n = n := by
  unfold wrap64
  omega
theorem u64w (n : Nat) (h : n < 18446744073709551616) : IntKind.u64.wrap (n : Int) = (n : Int) := by
  rw [IntKind.wrap_u64]
  omega
def LC (l : List C) : List S60 := l.map ofC24
theorem LC_len (l : List C) : (LC l).length = l.length := List.length_map ..
theorem LC_append (a b : List C) : LC (a ++ b) = LC a ++ LC b := List.map_append ..
theorem rdC (l : List C) (i : Nat) (h : i < l.length) : rd_T60 (LC l) (i : Int) = ofC24 l[i] := by
  unfold rd_T60 LC
  rw [Int.toNat_natCast, List.getD_eq_getElem?_getD, List.getElem?_map, List.getElem?_eq_getElem h]
  rfl
theorem backLC (l : List C) : (LC l).map toC24 = l := by
  unfold LC
  rw [List.map_map]
  refine (List.map_congr_left (g := id) fun c _ => ?_).trans (List.map_id _)
  rw [Function.comp_apply, toC_ofC24]
  rfl
theorem okLC {l : List C} (h : l.length ≤ 1000000) : okL24 (LC l) := ⟨by unfold LC; rw [List.all_map, List.all_eq_true]; intro c _; rw [Function.comp_apply, inR_ofC24], by rw [LC_len]; exact h⟩
theorem wf_u32 {a : Int} (h : (Lit.int .u32 a).wf = true) : ∃ n : Nat, a = n ∧ n < 4294967296 := by
  have h' : 0 ≤ a ∧ a ≤ 4294967295 := by simpa [Lit.wf, IntKind.min, IntKind.max, IntKind.bits, IntKind.signed] using h
  exact ⟨a.toNat, by omega, by omega⟩
theorem wf_i64 {a : Int} (h : (Lit.int .i64 a).wf = true) : -9223372036854775808 ≤ a ∧ a < 9223372036854775808 := by
  have h' : -9223372036854775808 ≤ a ∧ a ≤ 9223372036854775807 := by simpa [Lit.wf, IntKind.min, IntKind.max, IntKind.bits, IntKind.signed] using h
  omega

def L (l : List Nat) : List Int := l.map fun i : Nat => (i : Int)
theorem L_len (l : List Nat) : (L l).length = l.length := List.length_map ..
theorem rd_mid (pre post : List Nat) (a : Nat) : rd (L (pre ++ a :: post)) (pre.length : Int) = (a : Int) := by
  unfold rd L
  simp
theorem set_mid (pre post : List Nat) (a b : Nat) : (L (pre ++ a :: post)).set ((pre.length : Int)).toNat (b : Int) = L (pre ++ b :: post) := by
  unfold L
  rw [Int.toNat_natCast, List.map_append, List.map_append, List.set_append]
  simp
theorem leastL (l : List C) (h : l.length ≤ 1000000) : clause_Least.f (LC l) = some (LC (H.least l).1, (H.least l).2) := by
  unfold clause_Least.f
  rw [if_pos ⟨by unfold LC; rw [List.all_map, List.all_eq_true]; intro c _; rw [Function.comp_apply, inR_ofC24], by rw [LC_len]; exact h⟩, backLC]
  rfl
theorem equal_l0 (a b : List C) (hab : a.length = b.length) (hl : a.length ≤ 1000000) : ∀ (d k i : Nat), i + d = a.length → d < k → a.take i = b.take i → api_Clause.l0 k (LC a) (LC b) (a.length : Int) (i : Int) = some (decide (a = b))
  | d, 0, _, _, hk, _ => absurd hk (by omega)
  | 0, k + 1, i, hi, _, ht => by
    have e : a = b := by rw [← List.take_of_length_le (l := a) (i := i) (by omega), ht, List.take_of_length_le (by omega)]
    rw [api_Clause.l0, if_neg (by omega), decide_eq_true e]
  | d + 1, k + 1, i, hi, hk, ht => by
    have hia : i < a.length := by omega
    have hib : i < b.length := by omega
    have e2 : wrap64 ((i : Int) + 1) = ((i + 1 : Nat) : Int) := by
      unfold wrap64
      omega
    rw [api_Clause.l0, if_pos (by omega), if_pos (by omega), if_pos (by rw [LC_len]; omega), if_pos (by rw [LC_len]; omega), rdC a i hia, rdC b i hib]
    have hq : (!((ofC24 a[i]).f0 == (ofC24 b[i]).f0) || !((ofC24 a[i]).f1 == (ofC24 b[i]).f1)) = !decide (a[i] = b[i]) := by
      unfold ofC24
      rw [un_beq, un_beq, Bool.eq_iff_iff]
      simp [Prod.ext_iff]
    rw [hq, e2]
    by_cases hc : a[i] = b[i]
    · rw [if_neg (by simp [hc])]
      refine equal_l0 a b hab hl d k (i + 1) (by omega) (by omega) ?_
      rw [List.take_succ_eq_append_getElem hia, List.take_succ_eq_append_getElem hib, ht, hc]
    · rw [if_pos (by simp [hc]), decide_eq_false (fun e => hc (by subst e; rfl))]
theorem equalL (a b : List C) (k : Nat) (hl : a.length ≤ 1000000) (hk : a.length < k) : api_Clause.f k (LC a) (LC b) = some (decide (a = b)) := by
  unfold api_Clause.f
  rw [LC_len, LC_len]
  by_cases h : a.length = b.length
  · rw [if_pos (by omega)]
    exact equal_l0 a b h hl a.length k 0 (by omega) hk rfl
  · rw [if_neg (by omega), decide_eq_false (fun e => h (by rw [e]))]
theorem least_l64 (l : List C) : (H.least l).1.length ≤ 64 := by
  rcases H.least_cases l with ⟨_, e⟩ | ⟨_, _, e⟩ | ⟨_, h, e⟩
  · rw [e]; simp
  · rw [e]; simp
  · rw [e]
    show (H.sortC (H.keep l)).length ≤ 64
    rw [H.length_sortC]
    exact h
theorem rightL (f : List C) (k : Nat) (hf : f.length ≤ 1000000) (hk : 64 < k) : formula_Right.f k (LC f) = some (H.right f) := by
  have := least_l64 f
  unfold formula_Right.f H.right
  rw [leastL f hf, Option.bind_some]
  by_cases he : (H.least f).2 = 0
  · rw [if_pos he, equalL _ _ k (by omega) (by omega), Option.bind_some, decide_eq_true he, Bool.true_and]
  · rw [if_neg he, decide_eq_false he, Bool.false_and]
theorem dims24 (x : UInt32) : ∀ i ∈ H.dims x, i < 24 := fun _ h => (mem_dims.1 h).1
theorem listT (x : UInt32) : mask_List.f (un x) = some (L (H.dims x)) := by
  have h := un_range x
  unfold mask_List.f
  rw [if_pos h, show UInt32.ofNat (un x).toNat = x by unfold un; simp]
  rfl
theorem rdL (D : List Nat) (i : Nat) (h : i < D.length) : rd (L D) (i : Int) = ((D[i] : Nat) : Int) := by
  unfold rd L
  rw [Int.toNat_natCast, List.getD_eq_getElem?_getD, List.getElem?_map, List.getElem?_eq_getElem h]
  rfl
def atv (u : List Int) (i : Nat) : Bool × Bool := val (u.getD i 0)
theorem tvalue (u : List Int) (i : Nat) : truth_value.f u (i : Int) = some (u.getD i 0 % 4) := by
  unfold truth_value.f
  by_cases hi : i < u.length
  · rw [if_pos (by omega), if_pos (by omega), i64_and3]
    unfold rd
    rw [Int.toNat_natCast]
  · rw [if_neg (by omega), List.getD_eq_getElem?_getD, List.getElem?_eq_none (by omega)]
    rfl
theorem tmeet (a b : Int) : truth_Meet.f a b = some (code (vMeet (val a) (val b))) := by
  unfold truth_Meet.f
  rw [tMeet_code]
theorem tjoin (a b : Int) : truth_Join.f a b = some (code (vJoin (val a) (val b))) := by
  unfold truth_Join.f
  rw [tJoin_code]
theorem tnot (a : Int) : truth_Not.f a = some (code (vNot (val a))) := by
  unfold truth_Not.f
  rw [tNot_code]
theorem eval_l2 (u : List Int) (p0 : Bool × Bool) (F : List S60) (n : Int) (j : Int) (R : Option Int) (K0 : Nat) (D : List Nat) (hl : D.length ≤ 24) : ∀ (d k i : Nat) (p : Bool × Bool), i + d = D.length → K0 + d < k →
    (∀ k', K0 ≤ k' → truth_eval.l0 k' u (code (vJoin p0 (p.1 && (D.drop i).all fun i => !(atv u i).2, p.2 && (D.drop i).all fun i => !(atv u i).1))) F n (wrap64 (j + 1)) = R) → truth_eval.l2 k u (code p0) (code p) F n j (L D) (D.length : Int) (i : Int) = R
  | d, 0, _, _, _, hk, _ => absurd hk (by omega)
  | 0, k + 1, i, p, hi, hk, h => by
    have h2 := h k (by omega)
    rw [List.drop_eq_nil_of_le (by omega), List.all_nil, List.all_nil, Bool.and_true, Bool.and_true] at h2
    rw [truth_eval.l2, if_neg (by omega), tjoin, Option.bind_some, val_code, val_code]
    exact h2
  | d + 1, k + 1, i, p, hi, hk, h => by
    have hil : i < D.length := by omega
    have e2 : wrap64 ((i : Int) + 1) = ((i + 1 : Nat) : Int) := by
      unfold wrap64
      omega
    rw [truth_eval.l2, if_pos (by omega), if_pos (by omega), if_pos (by rw [L_len]; omega), rdL D i hil, tvalue, Option.bind_some, tnot, Option.bind_some, tmeet, Option.bind_some, val_code, val_code, val_mod, e2]
    refine eval_l2 u p0 F n j R K0 D hl d k (i + 1) (vMeet p (vNot (val (u.getD D[i] 0)))) (by omega) (by omega) fun k' hk' => ?_
    have h2 := h k' hk'
    rw [List.drop_eq_getElem_cons hil, List.all_cons, List.all_cons] at h2
    unfold vMeet vNot
    dsimp only
    rw [Bool.and_assoc, Bool.and_assoc]
    exact h2
theorem eval_l1 (u : List Int) (p0 : Bool × Bool) (F : List S60) (n : Int) (j : Int) (c : C) (R : Option Int) (K0 : Nat) (D : List Nat) (hl : D.length ≤ 24) : ∀ (d k i : Nat) (p : Bool × Bool), i + d = D.length → K0 + d < k →
    (∀ k', K0 ≤ k' → truth_eval.l2 k' u (code p0) (code (p.1 && (D.drop i).all fun i => (atv u i).1, p.2 && (D.drop i).all fun i => (atv u i).2)) F n j (L (H.dims c.2)) ((H.dims c.2).length : Int) 0 = R) → truth_eval.l1 k u (code p0) (code p) F n j (L D) (D.length : Int) (i : Int) (un c.1) (un c.2) = R
  | d, 0, _, _, _, hk, _ => absurd hk (by omega)
  | 0, k + 1, i, p, hi, hk, h => by
    have h2 := h k (by omega)
    rw [List.drop_eq_nil_of_le (by omega), List.all_nil, List.all_nil, Bool.and_true, Bool.and_true] at h2
    rw [truth_eval.l1, if_neg (by omega), listT, Option.bind_some, L_len]
    exact h2
  | d + 1, k + 1, i, p, hi, hk, h => by
    have hil : i < D.length := by omega
    have e2 : wrap64 ((i : Int) + 1) = ((i + 1 : Nat) : Int) := by
      unfold wrap64
      omega
    rw [truth_eval.l1, if_pos (by omega), if_pos (by omega), if_pos (by rw [L_len]; omega), rdL D i hil, tvalue, Option.bind_some, tmeet, Option.bind_some, val_code, val_mod, e2]
    refine eval_l1 u p0 F n j c R K0 D hl d k (i + 1) (vMeet p (val (u.getD D[i] 0))) (by omega) (by omega) fun k' hk' => ?_
    have h2 := h k' hk'
    rw [List.drop_eq_getElem_cons hil, List.all_cons, List.all_cons] at h2
    unfold vMeet
    dsimp only
    rw [Bool.and_assoc, Bool.and_assoc]
    exact h2
theorem eval_l0 (u : List Int) (f : List C) (hf : f.all ok = true) (hl : f.length ≤ 10000) : ∀ (d k i : Nat), i + d = f.length → d * 60 + 60 < k →
    truth_eval.l0 k u (code (valOf (f.take i) (atv u))) (LC f) (f.length : Int) (i : Int) = some (code (valOf f (atv u)))
  | d, 0, _, _, hk => absurd hk (by omega)
  | 0, k + 1, i, hi, _ => by rw [truth_eval.l0, if_neg (by omega), List.take_of_length_le (by omega)]
  | d + 1, k + 1, i, hi, hk => by
    have hil : i < f.length := by omega
    have e2 : wrap64 ((i : Int) + 1) = ((i + 1 : Nat) : Int) := by
      unfold wrap64
      omega
    have hok : ok f[i] = true := List.all_eq_true.1 hf _ (List.getElem_mem _)
    have hd1 := H.length_dims f[i].1
    have hd2 := H.length_dims f[i].2
    rw [truth_eval.l0, if_pos (by omega), if_pos (by omega), if_pos (by rw [LC_len]; omega), rdC f i hil]
    show (mask_List.f (un f[i].1)).bind _ = _
    rw [listT, Option.bind_some, L_len]
    show truth_eval.l1 k u _ (code (true, true)) _ _ _ (L (H.dims f[i].1)) ((H.dims f[i].1).length : Int) ((0 : Nat) : Int) (un f[i].1) (un f[i].2) = _
    refine eval_l1 u _ _ _ _ f[i] _ (d * 60 + 90) (H.dims f[i].1) hd1 (H.dims f[i].1).length k 0 (true, true) (by omega) (by omega) fun k' hk' => ?_
    refine eval_l2 u _ _ _ _ _ (d * 60 + 61) (H.dims f[i].2) hd2 (H.dims f[i].2).length k' 0 _ (by omega) (by omega) fun k'' hk'' => ?_
    have ih := eval_l0 u f hf hl d k'' (i + 1) (by omega) (by omega)
    rw [List.take_succ_eq_append_getElem hil, valOf_snoc _ _ hok] at ih
    rw [e2]
    exact ih
theorem evalL (u : List Int) (f : List C) (k : Nat) (hf : f.all ok = true) (hl : f.length ≤ 10000) (hk : f.length * 60 + 60 < k) : truth_eval.f k (LC f) u = some (code (valOf f (atv u))) := by
  unfold truth_eval.f
  rw [LC_len]
  exact eval_l0 u f hf hl f.length k 0 (by omega) hk
theorem right_ok {f : List C} (h : H.right f = true) : f.all ok = true := (right_iff.1 h).1
theorem EvalL (u : List Int) (f : List C) (k : Nat) (hl : f.length ≤ 10000) (hk : f.length * 60 + 70 < k) : truth_Eval.f k (LC f) u = some (if H.right f = true then (code (valOf f (atv u)), 0) else (0, 2)) := by
  unfold truth_Eval.f
  rw [rightL f k (by omega) (by omega), Option.bind_some]
  by_cases h : H.right f = true
  · rw [if_pos h, if_pos h, evalL u f k (right_ok h) hl (by omega), Option.bind_some]
  · rw [if_neg h, if_neg h]
end Go.Proofs.YtfbcgjkagdbckaaDoor.Pure
