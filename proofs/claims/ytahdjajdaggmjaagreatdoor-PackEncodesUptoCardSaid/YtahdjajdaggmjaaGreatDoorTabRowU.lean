/-
Plain law of layer 36: what the document puts entries as; the statement PackEncodes.
-/
import Derived.Test.YtahdjajdaggmjaaGreatDoorV1
import Derived.Test.YtahdjajdaggmjaaGreatDoorRows
import Derived.WalkKit
import Derived.ProofKit
import Derived.OpenShut
import Derived.Deep.DeepHandedRow
import Derived.Lib.LaidU8
import Derived.Test.YtahdjajdaggmjaaGreatDoorUtab
section
set_option linter.unusedVariables false
set_option linter.unusedSimpArgs false
set_option linter.unusedSectionVars false
namespace Go.Proofs.YtahdjajdaggmjaaGreatDoor.XPa
open Go.RowKit Go.Proofs.YtahdjajdaggmjaaGreatDoorW.PrintWords Go.Proofs.YtahdjajdaggmjaaGreatDoorW.PrintLast Go.Proofs.YtahdjajdaggmjaaGreatDoorW.PrintMore
abbrev Er := S51
def cv (x : Er) : En := ⟨x.f0, x.f1, x.f2⟩
theorem rd_E {l : List Er} {i : Nat} (h : i < l.length) : rd_T51 l (i : Int) = l[i] := by
 unfold rd_T51
 rw [Int.toNat_natCast, List.getD_eq_getElem?_getD, List.getElem?_eq_getElem h]
 rfl
theorem rn_l1 (l : List Er) (hl : l.length ≤ 1000) (i : Nat) (hi : i < l.length) (R : List Int × Int) (hR : Ev (fun k => r36Encode.l0 k l ((i + 1 : Nat) : Int)) R) : ∀ (d j : Nat), j + d = i →
  Ev (fun k => r36Encode.l1 k l (i : Int) (j : Int)) (if ((l.take i).drop j).any (fun q => q.f0.data.toList == l[i].f0.data.toList) = true then ([], 61) else R) := by
 intro d
 induction d with
 | zero =>
  intro j hj
  rw [List.drop_eq_nil_of_le (by rw [List.length_take]; omega), List.any_nil, if_neg Bool.false_ne_true]
  refine evU (fun k => by rw [r36Encode.l1]) ?_
  refine Ev.neg (by omega) ?_
  rw [ws i (by omega)]
  exact hR
 | succ d ih =>
  intro j hj
  have hjt : j < (l.take i).length := by rw [List.length_take]; omega
  have hjl : j < l.length := by omega
  rw [drop_at hjt, List.any_cons, List.getElem_take]
  refine evU (fun k => by rw [r36Encode.l1]) ?_
  refine Ev.pos (by omega) (Ev.pos (by omega) (Ev.pos (by omega) (Ev.pos (by omega) (Ev.pos (by omega) ?_))))
  rw [rd_E hjl, rd_E hi, Lib.toList_data, Lib.toList_data, ws j (by omega)]
  by_cases h : l[j].f0.data.toList = l[i].f0.data.toList
  ·rw [show (l[j].f0.data.toList == l[i].f0.data.toList) = true from beq_iff_eq.2 h, Bool.true_or, if_pos rfl]
   exact Ev.pos h (Ev.now _)
  ·rw [show (l[j].f0.data.toList == l[i].f0.data.toList) = false from beq_eq_false_iff_ne.2 h, Bool.false_or]
   exact Ev.neg h (ih (j + 1) (by omega))
theorem mem_seen (l : List Er) (s : ByteArray) : memB s ((l.map fun x => x.f0).reverse) = l.any (fun q => q.f0.data.toList == s.data.toList) := by
 unfold memB
 rw [List.any_reverse, List.any_map]
 rfl
theorem names_cons (nb : ByteArray → Bool) (x : En) (r : List En) (seen : List ByteArray) : namesBad nb (x :: r) seen = (!nb x.f0 || (memB x.f0 seen || namesBad nb r (x.f0 :: seen))) := by
 rw [namesBad]
 cases nb x.f0 <;> cases memB x.f0 seen <;> rfl
theorem rn_l0 (l : List Er) (hl : l.length ≤ 1000) (R : List Int × Int) (hR : Ev (fun k => r36Encode.l0 k l (l.length : Int)) R) : ∀ (d i : Nat), i + d = l.length →
  Ev (fun k => r36Encode.l0 k l (i : Int)) (if namesBad nbV ((l.drop i).map cv) (((l.take i).map fun x => x.f0).reverse) = true then ([], 61) else R) := by
 intro d
 induction d with
 | zero =>
  intro i hi
  obtain rfl : i = l.length := by omega
  rw [List.drop_eq_nil_of_le (Nat.le_refl _), List.map_nil, namesBad, if_neg Bool.false_ne_true]
  exact hR
 | succ d ih =>
  intro i hi
  have hil : i < l.length := by omega
  have h1 := ih (i + 1) (by omega)
  rw [List.take_succ_eq_append_getElem hil, List.map_append, List.reverse_append] at h1
  rw [drop_at hil, List.map_cons, names_cons, show (cv l[i]).f0 = l[i].f0 from rfl, mem_seen]
  have hn := NamedA l[i].f0
  refine evU (fun k => by rw [r36Encode.l0]) ?_
  refine Ev.pos (by omega) (Ev.pos (by omega) ?_)
  rw [rd_E hil]
  refine Ev.bind hn ?_
  rw [show (decide (l[i].f0.size ≤ 65536) && nmB l[i].f0) = nbV l[i].f0 from rfl]
  cases hb : nbV l[i].f0 with
  | true =>
   refine Ev.pos rfl ?_
   have h2 := rn_l1 l hl i hil _ h1 i 0 (by omega)
   rw [List.drop_zero] at h2
   rw [Bool.not_true, Bool.false_or]
   cases hm : (l.take i).any (fun q => q.f0.data.toList == l[i].f0.data.toList) with
   | true =>
    rw [hm, if_pos rfl] at h2
    rw [Bool.true_or, if_pos rfl]
    exact h2
   | false =>
    rw [hm, if_neg Bool.false_ne_true] at h2
    rw [Bool.false_or]
    exact h2
  | false =>
   rw [Bool.not_false, Bool.true_or, if_pos rfl]
   exact Ev.neg Bool.false_ne_true (Ev.now _)
theorem rb_fin (l : List Er) (acc : List Int) (i : Nat) (hi : l.length ≤ i) (ha : acc.length ≤ 10000000) (hB : By acc) : Ev (fun k => r36Encode.l2 k l acc (i : Int)) (finV acc) := by
 have hs := sumN_lt acc 2166136261 (by decide)
 have h0 := rsum acc (by omega) hB
 unfold finV
 generalize sumN 2166136261 acc = s at hs h0
 have e1 : wrap64 (Int.tdiv (s : Int) 16777216) = ((s / 16777216 : Nat) : Int) := w64 (a := ((s / 16777216 : Nat) : Int)) (by omega) (by omega)
 have e2 : wrap64 (Int.tdiv (s : Int) 65536) = ((s / 65536 : Nat) : Int) := w64 (a := ((s / 65536 : Nat) : Int)) (by omega) (by omega)
 have e3 : wrap64 (Int.tdiv (s : Int) 256) = ((s / 256 : Nat) : Int) := w64 (a := ((s / 256 : Nat) : Int)) (by omega) (by omega)
 have e4 : ∀ n : Nat, Int.tmod (n : Int) 256 % 256 = ((n % 256 : Nat) : Int) := fun n => by
  rw [show Int.tmod (n : Int) 256 = ((n % 256 : Nat) : Int) from rfl]
  omega
 have e5 : ([((s / 16777216 : Nat) : Int) % 256, Int.tmod ((s / 65536 : Nat) : Int) 256 % 256, Int.tmod ((s / 256 : Nat) : Int) 256 % 256, Int.tmod (s : Int) 256 % 256] : List Int) = four s := by
  rw [e4, e4, e4]
  rfl
 refine evU (fun k => by rw [r36Encode.l2]) ?_
 refine Ev.neg (by omega) (Ev.bind h0 (Ev.bindc rfl ?_))
 rw [e1, e2, e3, e5]
 have h4 : (four s).length = 4 := rfl
 refine Ev.pos (by rw [h4]; omega) (Ev.bindc rfl ?_)
 by_cases h : 1048572 < acc.length
 ·rw [if_pos h]
  exact Ev.pos (by rw [List.length_append, h4]; omega) (Ev.now _)
 ·rw [if_neg h]
  exact Ev.neg (by rw [List.length_append, h4]; omega) (Ev.now _)
theorem rb_l2 (l : List Er) (hl : l.length ≤ 1000) (h : ∀ x ∈ l.map cv, EnIn x) (hb : bkNs (l.map cv) ≤ 1048576) : ∀ (d i : Nat) (acc : List Int), i + d = l.length → acc.length + 5 * bkNs ((l.drop i).map cv) ≤ 10000000 → By acc →
  Ev (fun k => r36Encode.l2 k l acc (i : Int)) (if ((l.drop i).map cv).any badE = true then ([], 100) else finV (acc ++ ((l.drop i).map cv).flatMap encE)) := by
 intro d
 induction d with
 | zero =>
  intro i acc hi ha hB
  rw [List.drop_eq_nil_of_le (by omega), List.map_nil, List.any_nil, if_neg Bool.false_ne_true, List.flatMap_nil, List.append_nil]
  exact rb_fin l acc i (by omega) (by omega) hB
 | succ d ih =>
  intro i acc hi ha hB
  have hil : i < l.length := by omega
  have hm : cv l[i] ∈ l.map cv := List.mem_map.2 ⟨l[i], List.getElem_mem hil, rfl⟩
  have hE := h _ hm
  have hbk := bkN_mem hm
  have hbk2 : bkN (cv l[i]) ≤ 1048576 := by omega
  have hbk3 := hbk2
  unfold bkN at hbk3
  have hr1 := Right_ev l[i].f1 hE.2.1 (by have : bkT (cv l[i]).f1 = bkT l[i].f1 := rfl; omega)
  have hr2 := Right_ev l[i].f2 hE.2.2 (by have : bkT (cv l[i]).f2 = bkT l[i].f2 := rfl; omega)
  rw [drop_at hil, List.map_cons, List.any_cons, List.flatMap_cons] at *
  rw [bkNs, List.map_cons, List.sum_cons] at ha
  have hj : Ev (fun k => r36Encode.j3 k l acc (i : Int) (badE (cv l[i]))) (if (badE (cv l[i]) || ((l.drop (i + 1)).map cv).any badE) = true then ([], 100) else finV (acc ++ (encE (cv l[i]) ++ ((l.drop (i + 1)).map cv).flatMap encE))) := by
   cases hbad : badE (cv l[i]) with
   | true =>
    rw [Bool.true_or, if_pos rfl]
    refine evU (fun k => by rw [r36Encode.j3]) ?_
    exact Ev.pos rfl (Ev.now _)
   | false =>
    have hok := bad_ok hE hbk2 hbad
    have hlen := encE_len hE hok
    rw [Bool.false_or]
    have hlen2 := hlen
    rw [encE, List.length_append, List.length_append] at hlen2
    have hih := ih (i + 1) (acc ++ encE (cv l[i])) (by omega) (by rw [List.length_append]; unfold bkNs; omega) (hB.app (encE_by _))
    rw [List.append_assoc] at hih
    refine evU (fun k => by rw [r36Encode.j3]) ?_
    refine Ev.neg Bool.false_ne_true (Ev.pos (by omega) (Ev.pos (by omega) ?_))
    rw [rd_E hil, r_text l[i].f0 (by have : l[i].f0.size ≤ 1000000 := hE.1; omega), ws i (by omega)]
    have t1 := r_term _ l[i].f1 (Nat.le_refl _) hok.1 (by have : (encT (cv l[i]).f1).length = (encT l[i].f1).length := rfl; omega)
    have t2 := r_term _ l[i].f2 (Nat.le_refl _) hok.2 (by have : (encT (cv l[i]).f2).length = (encT l[i].f2).length := rfl; omega)
    have q1 : (encT (cv l[i]).f1).length = (encT l[i].f1).length := rfl
    have q2 : (encT (cv l[i]).f2).length = (encT l[i].f2).length := rfl
    have q0 : (textL (cv l[i]).f0).length = (textL l[i].f0).length := rfl
    refine Ev.bindc rfl (Ev.pos (by omega) (Ev.bindc rfl (Ev.bind t1 (Ev.pos (by rw [List.length_append]; omega) (Ev.bindc rfl (Ev.bind t2 (Ev.pos (by rw [List.length_append, List.length_append]; omega) ?_)))))))
    have e : acc ++ textL l[i].f0 ++ encT l[i].f1 ++ encT l[i].f2 = acc ++ encE (cv l[i]) := by
     rw [encE, ← List.append_assoc, ← List.append_assoc]
     rfl
    rw [e]
    exact hih
  refine evU (fun k => by rw [r36Encode.l2]) ?_
  refine Ev.pos (by omega) (Ev.pos (by omega) ?_)
  rw [rd_E hil]
  refine Ev.bind hr1 ?_
  by_cases h1 : rtV l[i].f1 = 0
  ·refine Ev.pos h1 (Ev.bind hr2 ?_)
   have : badE (cv l[i]) = (rtV l[i].f2 != 0) := by
    unfold badE
    rw [show decide (rtV (cv l[i]).f1 ≠ 0) = false from decide_eq_false (fun hn => hn h1), Bool.false_or]
    rw [Bool.eq_iff_iff, decide_eq_true_iff, bne_iff_ne]
    rfl
   rw [this] at hj ⊢
   exact hj
  ·refine Ev.neg h1 ?_
   have : badE (cv l[i]) = true := by
    unfold badE
    rw [show decide (rtV (cv l[i]).f1 ≠ 0) = true from decide_eq_true h1, Bool.true_or]
   rw [this] at hj ⊢
   exact hj
theorem Encode_ev (l : List Er) (hl : l.length ≤ 1000) (h : ∀ x ∈ l.map cv, EnIn x) (hb : bkNs (l.map cv) ≤ 1048576) : Ev (fun k => r36Encode.f k l) (encV (l.map cv)) := by
 have hn := numL_length l.length (by omega)
 have hR : Ev (fun k => r36Encode.l0 k l (l.length : Int)) (if (l.map cv).any badE = true then ([], 100) else finV (encS (l.map cv))) := by
  have h2 := rb_l2 l hl h hb l.length 0 ([72, 67, 1] ++ numL l.length) (by omega) (by rw [List.length_append, List.drop_zero]; show 3 + _ + _ ≤ _; omega) (By.app (fun x hx => by simp at hx; omega) (numBy _))
  rw [List.drop_zero] at h2
  refine evU (fun k => by rw [r36Encode.l0]) ?_
  refine Ev.neg (by omega) (Ev.bindc rfl (Ev.bind (r_num l.length (by omega)) (Ev.pos (by show 3 + _ < _; omega) ?_)))
  unfold encS
  rw [List.length_map]
  exact h2
 have h0 := rn_l0 l hl _ hR l.length 0 (by omega)
 rw [List.drop_zero, List.take_zero] at h0
 refine evS (fun k => by rw [r36Encode.f]) ?_
 unfold encV
 exact h0
theorem sig_l0 (l : List Er) (hl : l.length ≤ 1000) : ∀ (d i : Nat), i + d = l.length → Ev (fun k => w26Sig.l0 k ((l.take i).map cv) l (l.length : Int) (i : Int)) (l.map cv) := by
 intro d
 induction d with
 | zero =>
  intro i hi
  rw [List.take_of_length_le (by omega)]
  refine evU (fun k => by rw [w26Sig.l0]) ?_
  exact Ev.neg (by omega) (Ev.now _)
 | succ d ih =>
  intro i hi
  have hil : i < l.length := by omega
  have h1 := ih (i + 1) (by omega)
  rw [List.take_succ_eq_append_getElem hil, List.map_append] at h1
  refine evU (fun k => by rw [w26Sig.l0]) ?_
  refine Ev.pos (by omega) (Ev.pos (by omega) (Ev.pos (by omega) (Ev.pos (by rw [List.length_map, List.length_take]; omega) ?_)))
  rw [rd_E hil, ws i (by omega), tm_eta, tm_eta]
  exact h1
theorem sig_ev (l : List Er) (hl : l.length ≤ 1000) : Ev (fun k => w26Sig.f k l) (l.map cv) := by
 refine evS (fun k => by rw [w26Sig.f]) ?_
 exact sig_l0 l hl l.length 0 (by omega)
theorem great_l0 (l : List Er) (hl : l.length ≤ 30) : ∀ (d i s : Nat), i + d = l.length → s ≤ 2000 →
  ∃ b, Ev (fun k => w36great.l0 k (s : Int) l (l.length : Int) (i : Int)) b ∧ (b = false → ∀ x ∈ l.drop i, x.f0.size ≤ 200) := by
 intro d
 induction d with
 | zero =>
  intro i s hi hs
  refine ⟨false, ?_, fun _ x hx => ?_⟩
  ·refine evU (fun k => by rw [w36great.l0]) ?_
   exact Ev.neg (by omega) (Ev.now _)
  ·rw [List.drop_eq_nil_of_le (by omega)] at hx
   cases hx
 | succ d ih =>
  intro i s hi hs
  have hil : i < l.length := by omega
  obtain ⟨r1, h1, h1b, _⟩ := bulk _ l[i].f1 (Nat.le_refl _) 600 (Nat.le_refl _)
  obtain ⟨r2, h2, h2b, _⟩ := bulk _ l[i].f2 (Nat.le_refl _) 600 (Nat.le_refl _)
  by_cases hn : ((l[i].f0).size : Int) > 200
  ·refine ⟨true, ?_, fun h => by cases h⟩
   refine evU (fun k => by rw [w36great.l0]) ?_
   refine Ev.pos (by omega) (Ev.pos (by omega) (Ev.pos (by omega) ?_))
   rw [rd_E hil]
   exact Ev.bind h1 (Ev.bind h2 (Ev.pos hn (Ev.now _)))
  ·have hw : wrap64 ((s : Int) + wrap64 ((r1 : Int) + (r2 : Int))) = ((s + (r1 + r2) : Nat) : Int) := by
    rw [w64 (a := (r1 : Int) + (r2 : Int)) (by omega) (by omega)]
    exact w64 (a := ((s + (r1 + r2) : Nat) : Int)) (by omega) (by omega)
   by_cases h2000 : ((s + (r1 + r2) : Nat) : Int) > 2000
   ·refine ⟨true, ?_, fun h => by cases h⟩
    refine evU (fun k => by rw [w36great.l0]) ?_
    refine Ev.pos (by omega) (Ev.pos (by omega) (Ev.pos (by omega) ?_))
    rw [rd_E hil]
    refine Ev.bind h1 (Ev.bind h2 (Ev.neg hn ?_))
    rw [hw]
    exact Ev.pos h2000 (Ev.now _)
   ·obtain ⟨b, hb, hbf⟩ := ih (i + 1) (s + (r1 + r2)) (by omega) (by omega)
    refine ⟨b, ?_, fun h x hx => ?_⟩
    ·refine evU (fun k => by rw [w36great.l0]) ?_
     refine Ev.pos (by omega) (Ev.pos (by omega) (Ev.pos (by omega) ?_))
     rw [rd_E hil]
     refine Ev.bind h1 (Ev.bind h2 (Ev.neg hn ?_))
     rw [hw, ws i (by omega)]
     exact Ev.neg h2000 hb
    ·rw [drop_at hil] at hx
     rcases List.mem_cons.1 hx with rfl | hx
     ·omega
     ·exact hbf h x hx
theorem great_ev (l : List Er) : ∃ b, Ev (fun k => w36great.f k l) b ∧ (b = false → l.length ≤ 30 ∧ ∀ x ∈ l, x.f0.size ≤ 200) := by
 by_cases h : (l.length : Int) > 30
 ·refine ⟨true, ?_, fun h => by cases h⟩
  refine evS (fun k => by rw [w36great.f]) ?_
  exact Ev.pos h (Ev.now _)
 ·obtain ⟨b, hb, hf⟩ := great_l0 l (by omega) l.length 0 0 (by omega) (by omega)
  rw [List.drop_zero] at hf
  refine ⟨b, ?_, fun h2 => ⟨by omega, hf h2⟩⟩
  refine evS (fun k => by rw [w36great.f]) ?_
  exact Ev.neg h hb
theorem PackEncodes (l : List Er) (l1 : List Int) (hu : l.all uE = true) (hb : bkS l ≤ 1048576) (h1 : By l1) : ∃ k, w36PackEn.f k l l1 = some true := by
 suffices h : Ev (fun k => w36PackEn.f k l l1) true by
  obtain ⟨k0, h0⟩ := h
  exact ⟨k0, h0 k0 (Nat.le_refl _)⟩
 have hw : Ev (fun k => w36PackEn.j0 k l l1 true) true := by
  refine evU (fun k => by rw [w36PackEn.j0]) ?_
  exact Ev.pos rfl (Ev.bind works (Ev.now _))
 obtain ⟨b, hgb, hbf⟩ := great_ev l
 refine evS (fun k => by rw [w36PackEn.f]) ?_
 refine Ev.bind hgb ?_
 cases b with
 | true => exact Ev.pos rfl hw
 | false =>
  obtain ⟨hl, hn⟩ := hbf rfl
  refine Ev.neg Bool.false_ne_true ?_
  by_cases h2 : (l1.length : Int) > 10000
  ·rw [decide_eq_true h2]
   exact hw
  ·rw [decide_eq_false h2]
   have hbk : ∀ l : List Er, bkNs (l.map cv) = bkS l := fun l => by
    unfold bkNs bkS
    rw [List.map_map]
    rfl
   have hE : ∀ x ∈ l.map cv, EnIn x := by
    intro x hx
    obtain ⟨y, hy, rfl⟩ := List.mem_map.1 hx
    have hyu := List.all_eq_true.1 hu y hy
    have hm := bkN_mem hx
    rw [hbk] at hm
    unfold bkN at hm
    unfold uE at hyu
    obtain ⟨u1, u2⟩ := Bool.and_eq_true_iff.1 hyu
    exact ⟨by show y.f0.size ≤ _; have := hn y hy; omega, in_T y.f1 u1 (by have : bkT (cv y).f1 = bkT y.f1 := rfl; omega), in_T y.f2 u2 (by have : bkT (cv y).f2 = bkT y.f2 := rfl; omega)⟩
   have hbk2 : bkNs (l.map cv) ≤ 1048576 := by rw [hbk]; exact hb
   refine evU (fun k => by rw [w36PackEn.j0]) ?_
   refine Ev.neg Bool.false_ne_true (Ev.bind (sig_ev l (by omega)) (Ev.bindc (encode_val (l.map cv) (by rw [List.length_map]; omega) hE hbk2) (Ev.bind (Encode_ev l (by omega) hE hbk2) (Ev.pos rfl (Ev.pos rfl (Ev.bind (psum l1 (by omega) h1) (Ev.bind (rsum l1 (by omega) h1) ?_)))))))
   have hs := sumN_lt l1 2166136261 (by decide)
   exact Ev.pos (w64 (by omega) (by omega)) (Ev.bind works (Ev.now _))
end Go.Proofs.YtahdjajdaggmjaaGreatDoor.XPa
end
section
namespace Go.Proofs.YtahdjajdaggmjaaGreatDoor
open Go.ChangeShapes Go.WideShapes Go.ChangeAt Go.RowKit
theorem own : ownKnob Tryz.prog.godebug = none := by kernel_rfl
theorem gSigns : Tryz.prog.globalNamed "hypercube/lex.signs" = some 0 := by kernel_rfl
theorem gSignsType : (Tryz.prog.globals[0]?).map (·.type) = some 139 := by kernel_rfl
theorem cSigns : Tryz.prog.cellsOf 139 = 20 := by kernel_rfl
theorem cString : Tryz.prog.cellsOf 9 = 1 := by kernel_rfl
theorem u8x : U8Extra Tryz.prog Tryz.lays260_ren := ⟨by kernel_rfl, by kernel_rfl, by kernel_rfl, by kernel_rfl, by kernel_rfl, by kernel_rfl, by kernel_rfl⟩
theorem cells_of_strs {H : Type} {enc : TypeId × Value → H} {P : Program} {w : World} {base : Nat} {sp : Nat → Bool} {held : Bool} {fuel : Nat} {t e : TypeId} {n : Nat} {cs : List Value} {zs : List (List UInt8)} {p : List MemPlace}
  (ht : P.underlying t = some (.array n e)) (he : P.underlying e = some .string) (hce : P.cellsOf e = 1) (hct : P.cellsOf t = n)
  (h : DataW.trod enc P w base sp held fuel t cs = some (.agg (zs.map fun b => .lit (.string b)), p)) : cs = zs.map fun b => Value.string ⟨b.toArray⟩ := by
 cases fuel with
 | zero => simp [DataW.trod] at h
 | succ fuel =>
  simp only [DataW.trod, ht, hce, hct, Nat.mul_one] at h
  split at h
  ·rename_i hl
   obtain ⟨xs, hm, hx⟩ := Option.map_eq_some_iff.1 h
   have hxs : xs.map (·.1) = zs.map fun b => (DataW.lit (.string b) : DataW H) := by
    have := congrArg Prod.fst hx
    simpa using this
   have hxl : xs.length = n := by simpa using Lib.mapM_length hm
   have hzl : zs.length = n := by
    have := congrArg List.length hxs
    simp at this
    omega
   apply List.ext_getElem?
   intro i
   by_cases hi : i < n
   ·obtain ⟨b, hb, hf⟩ := Lib.mapM_at hm i i (by simp [hi])
    obtain ⟨s, hc, hbs, _⟩ := DataW.trod_string he hf
    have h1 : cs[i]? = some (.string s) := by
     have := congrArg (·[0]?) hc
     simpa [List.getElem?_take, List.getElem?_drop] using this
    have h2 : (xs.map (·.1))[i]? = some (DataW.lit (.string s.data.toList) : DataW H) := by simp [hb, hbs]
    rw [hxs] at h2
    simp only [List.getElem?_map, Option.map_eq_some_iff, DataW.lit.injEq, Lit.string.injEq] at h2
    obtain ⟨z', hz', rfl⟩ := h2
    rw [h1, List.getElem?_map, hz']
    rfl
   ·rw [List.getElem?_eq_none (by omega), List.getElem?_eq_none (by simp; omega)]
  ·cases h
theorem tab_of {W : World} (h : laidMetH Tryz.prog [("unicode/utf8.acceptRanges", Rows.laid_unicode_utf8_acceptRanges), ("hypercube/lex.signs", Rows.laid_hypercube_lex_signs), ("unicode/utf8.first", Rows.laid_unicode_utf8_first)] W) : Tab W := by
 have h' : laidMet Tryz.prog [("unicode/utf8.acceptRanges", Rows.laid_unicode_utf8_acceptRanges), ("hypercube/lex.signs", Rows.laid_hypercube_lex_signs), ("unicode/utf8.first", Rows.laid_unicode_utf8_first)] W := h
 have h1 := Lib.laidMet.reads h' (n := "unicode/utf8.acceptRanges") (d := Rows.laid_unicode_utf8_acceptRanges) (by simp)
 have h2 := Lib.laidMet.reads h' (n := "hypercube/lex.signs") (d := Rows.laid_hypercube_lex_signs) (by simp)
 have h3 := Lib.laidMet.reads h' (n := "unicode/utf8.first") (d := Rows.laid_unicode_utf8_first) (by simp)
 rw [show (Rows.laid_unicode_utf8_acceptRanges : DataW Unit) = Lib.acceptData by kernel_rfl] at h1
 rw [show Rows.laid_unicode_utf8_first = Lib.firstData by kernel_rfl] at h3
 refine ⟨utf8Tabs_of_reads Tryz.lays260 u8x h3 h1, ?_⟩
 obtain ⟨g, t, cs, fuel, p, hg, hty, hvar, hd⟩ := h2
 obtain rfl := Option.some.inj (gSigns.symm.trans hg)
 obtain rfl := Option.some.inj (gSignsType.symm.trans hty)
 have hcs := cells_of_strs (zs := signTab) Tryz.underlying139 Tryz.underlying9 cString cSigns hd
 have hca : cs = signArr := by
  rw [← Array.toArray_toList (xs := cs), hcs]
  rfl
 subst hca
 unfold World.var? at hvar
 rw [gSigns, Option.bind_some] at hvar
 split at hvar
 ·rename_i cs' t' fr heq
  obtain rfl := Option.some.inj hvar
  exact ⟨t', fr, heq⟩
 ·cases hvar
def laidHeap (h : Array Obj) : Array Obj :=
 let put (h : Array Obj) (g : Nat) (cs : Array Value) : Array Obj := h.modify g fun
  | .cells _ t frozen => .cells cs t frozen
  | o => o
 put (put (put h 0 signArr) 1 (Pinned.utf8FirstZ.map fun n : Nat => Value.int .u8 (n : Int)).toArray) 2 (([128, 191, 160, 191, 128, 159, 144, 191, 128, 143, 0, 0, 0, 0, 0, 0, 0, 0, 0, 0, 0, 0, 0, 0, 0, 0, 0, 0, 0, 0, 0, 0] : List Int).map fun n => Value.int .u8 n).toArray
end Go.Proofs.YtahdjajdaggmjaaGreatDoor
end
