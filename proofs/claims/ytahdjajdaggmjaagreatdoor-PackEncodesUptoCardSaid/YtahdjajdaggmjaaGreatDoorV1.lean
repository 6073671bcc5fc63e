/-
Plain law of layer 36: whether a term has its form: the program's answer is the document's.
-/
import Derived.Test.YtahdjajdaggmjaaGreatDoorV6
import Derived.Test.YtahdjajdaggmjaaGreatDoorOpenB
import Derived.Test.YtahdjajdaggmjaaGreatDoorV2
section
set_option linter.unusedVariables false
set_option linter.unusedSimpArgs false
set_option linter.unusedSectionVars false
namespace Go.Proofs.YtahdjajdaggmjaaGreatDoor.XPa
open Go.RowKit Go.Proofs.YtahdjajdaggmjaaGreatDoorW.PrintWords Go.Proofs.YtahdjajdaggmjaaGreatDoorW.PrintLast Go.Proofs.YtahdjajdaggmjaaGreatDoorW.PrintMore
theorem Ev.has {α : Type} {F : Nat → Option α} {r : α} (h : Ev F r) : hasO F := by
 obtain ⟨k0, h0⟩ := h
 exact ⟨k0, r, h0 k0 (Nat.le_refl _)⟩
theorem Ev.val {α : Type} {d : α} {F : Nat → Option α} {r : α} (hm : ∀ k, LeO (F k) (F (k + 1))) (h : Ev F r) : valO d F = r := by
 obtain ⟨k0, h0⟩ := h
 exact valO_eq hm (h0 k0 (Nat.le_refl _))
def rowIn (l : List Cl) : Prop := l.all cl32 = true ∧ l.length ≤ 1000000
def cvt (l : List Cl) : List H.C := l.map toC24
theorem rowIn_LC {l : List Cl} (h : rowIn l) : Pure.LC (cvt l) = l ∧ (cvt l).length ≤ 1000000 := ⟨LC_back h.1, by unfold cvt; rw [List.length_map]; exact h.2⟩
theorem rowP {l : List Cl} (h : rowIn l) : PFp l ∧ frP l = H.right (cvt l) ∧ faP l = faceR (cvt l) ∧ ∀ d, 0 ≤ d → wiP l d = wiN (cvt l) d := by
 obtain ⟨e, hl⟩ := rowIn_LC h
 have h1 := rightE (cvt l) hl
 have h2 := faceE (cvt l) hl
 have h3 := fun d hd => withinE (cvt l) d hl hd
 rw [e] at h1 h2
 simp only [e] at h3
 refine ⟨⟨h1.has, ⟨0, _, h2⟩, fun d hd _ => (h3 d hd).has⟩, ?_, ?_, fun d hd => ?_⟩
 ·exact Ev.val (fun k => fo_Right.mono _ k) h1
 ·exact Ev.val (F := fun _ => fa_Right.f l) (fun k => LeO.refl _) (Ev.const h2)
 ·exact Ev.val (fun k => te_within.mono _ _ k) (h3 d hd)
theorem rowR {l : List Cl} (h : rowIn l) : PFr l ∧ frR l = H.right (cvt l) ∧ faR l = faceR (cvt l) ∧ ∀ d, 0 ≤ d → wiR l d = wiN (cvt l) d := by
 obtain ⟨e, hl⟩ := rowIn_LC h
 have h1 := right3E (cvt l) hl
 have h2 := face5E (cvt l) hl
 have h3 := fun d hd => lowE (cvt l) d hl hd
 rw [e] at h1 h2
 simp only [e] at h3
 refine ⟨⟨h1.has, h2.has, fun d hd _ => (h3 d hd).has, fun h0 d => ?_⟩, ?_, ?_, fun d hd => ?_⟩
 ·obtain rfl : l = [] := List.length_eq_zero_iff.1 h0
  have hlow : r10low.f 400 ([] : List Cl) d = some true := by
   unfold r10low.f
   rw [show r03Dims.f 400 ([] : List Cl) = some 0 from by kernel_rfl, Option.bind_some, show r01List.f 400 0 = some [] from by kernel_rfl]
   rfl
  exact ⟨400, hlow⟩
 ·exact Ev.val (fun k => r03Right.mono _ k) h1
 ·exact Ev.val (fun k => r05Right.mono _ k) h2
 ·unfold wiR
  by_cases h0 : l.length = 0
  ·rw [if_pos h0]
   obtain rfl : l = [] := List.length_eq_zero_iff.1 h0
   refine (decide_eq_true ?_).symm
   show (0 : Nat) < 2 ^ d.toNat
   exact Nat.two_pow_pos _
  ·rw [if_neg h0]
   exact Ev.val (fun k => r10low.mono _ _ k) (h3 d hd)
theorem nameP {s : ByteArray} (h : s.size ≤ 2000000) : PNp s ∧ nmP s = nmB s := ⟨(tname s h).has, Ev.val (fun k => te_name.mono _ k) (tname s h)⟩
theorem nameR {s : ByteArray} (h : s.size ≤ 2000000) : PNr s ∧ nmR s = nmB s := ⟨(rname s h).has, Ev.val (fun k => r10name.mono _ k) (rname s h)⟩
def nameIn (s : ByteArray) : Prop := s.size ≤ 2000000
mutual
theorem okS_imp {P P' : List Cl → Prop} {Q Q' : ByteArray → Prop} (hp : ∀ l, P l → P' l) (hq : ∀ s, Q s → Q' s) : ∀ t : Tm, okS P Q t → okS P' Q' t
 | ⟨k, n, s, r, ks, bs⟩, h => by
  rw [okS] at h ⊢
  exact ⟨hp _ h.1, hq _ h.2.1, okSL_imp hp hq ks h.2.2.1, okSB_imp hp hq bs h.2.2.2⟩
theorem okSL_imp {P P' : List Cl → Prop} {Q Q' : ByteArray → Prop} (hp : ∀ l, P l → P' l) (hq : ∀ s, Q s → Q' s) : ∀ l : List Tm, okSL P Q l → okSL P' Q' l
 | [], _ => by rw [okSL]; trivial
 | t :: r, h => by
  rw [okSL] at h ⊢
  exact ⟨okS_imp hp hq t h.1, okSL_imp hp hq r h.2⟩
theorem okSB_imp {P P' : List Cl → Prop} {Q Q' : ByteArray → Prop} (hp : ∀ l, P l → P' l) (hq : ∀ s, Q s → Q' s) : ∀ l : List Br, okSB P Q l → okSB P' Q' l
 | [], _ => by rw [okSB]; trivial
 | b :: r, h => by
  rw [okSB] at h ⊢
  exact ⟨okSR_imp hp hq b h.1, okSB_imp hp hq r h.2⟩
theorem okSR_imp {P P' : List Cl → Prop} {Q Q' : ByteArray → Prop} (hp : ∀ l, P l → P' l) (hq : ∀ s, Q s → Q' s) : ∀ b : Br, okSR P Q b → okSR P' Q' b
 | ⟨f, ks⟩, h => by
  rw [okSR] at h ⊢
  exact ⟨hp _ h.1, okSL_imp hp hq ks h.2⟩
end
mutual
theorem in_T : ∀ t : Tm, uT t = true → bkT t ≤ 1048576 → okS rowIn nameIn t
 | ⟨k, n, s, r, ks, bs⟩, h, hb => by
  rw [uT] at h
  rw [bkT] at hb
  obtain ⟨h1, h2⟩ := Bool.and_eq_true_iff.1 h
  obtain ⟨h2, h3⟩ := Bool.and_eq_true_iff.1 h2
  rw [okS]
  exact ⟨⟨h1, by omega⟩, show s.size ≤ 2000000 by omega, in_L ks h2 (by omega), in_B bs h3 (by omega)⟩
theorem in_L : ∀ l : List Tm, uL l = true → bkL l ≤ 1048576 → okSL rowIn nameIn l
 | [], _, _ => by rw [okSL]; trivial
 | t :: r, h, hb => by
  rw [uL] at h
  rw [bkL] at hb
  obtain ⟨h1, h2⟩ := Bool.and_eq_true_iff.1 h
  rw [okSL]
  exact ⟨in_T t h1 (by omega), in_L r h2 (by omega)⟩
theorem in_B : ∀ l : List Br, uB l = true → bkB l ≤ 1048576 → okSB rowIn nameIn l
 | [], _, _ => by rw [okSB]; trivial
 | b :: r, h, hb => by
  rw [uB] at h
  rw [bkB] at hb
  obtain ⟨h1, h2⟩ := Bool.and_eq_true_iff.1 h
  rw [okSB]
  exact ⟨in_R b h1 (by omega), in_B r h2 (by omega)⟩
theorem in_R : ∀ b : Br, uR b = true → bkR b ≤ 1048576 → okSR rowIn nameIn b
 | ⟨f, ks⟩, h, hb => by
  rw [uR] at h
  rw [bkR] at hb
  obtain ⟨h1, h2⟩ := Bool.and_eq_true_iff.1 h
  rw [okSR]
  exact ⟨⟨h1, by omega⟩, in_L ks h2 (by omega)⟩
end
section
variable {fr fa fr' fa' : List Cl → Bool} {wi wi' : List Cl → Int → Bool} {nm nm' : ByteArray → Bool} {P : List Cl → Prop} {Q : ByteArray → Prop}
 (hP : ∀ l, P l → fr l = fr' l ∧ fa l = fa' l ∧ ∀ d, 0 ≤ d → wi l d = wi' l d) (hQ : ∀ s, Q s → nm s = nm' s)
include hP hQ
theorem own_c (t : Tm) (v d : Int) (hd : 0 ≤ d) (h : okN P Q t) : ownB fr fa wi nm t v d = ownB fr' fa' wi' nm' t v d := by
 obtain ⟨h1, h2, h3⟩ := h
 obtain ⟨e1, e2, e3⟩ := hP _ h1
 have e4 := hQ _ h2
 have e5 : t.f5.all (ownR fa wi t.f0 d) = t.f5.all (ownR fa' wi' t.f0 d) := by
  rw [Bool.eq_iff_iff, List.all_eq_true, List.all_eq_true]
  constructor
  ·intro h b hb
   have h4 := h b hb
   obtain ⟨_, f2, f3⟩ := hP _ (h3 b hb)
   unfold ownR at h4 ⊢
   rwa [f2, f3 d hd] at h4
  ·intro h b hb
   have h4 := h b hb
   obtain ⟨_, f2, f3⟩ := hP _ (h3 b hb)
   unfold ownR at h4 ⊢
   rwa [f2, f3 d hd]
 unfold ownB
 rw [e1, e2, e3 d hd, e4, e5]
mutual
theorem all_T : ∀ (t : Tm) (v d : Int), 0 ≤ d → okS P Q t → allT fr fa wi nm t v d = allT fr' fa' wi' nm' t v d
 | ⟨k, n, s, r, ks, bs⟩, v, d, hd, h => by
  have h2 := own_c hP hQ ⟨k, n, s, r, ks, bs⟩ v d hd (okS_N h)
  rw [okS] at h
  rw [allT, allT, h2, all_L k ks 0 v d hd h.2.2.1, all_Bs k bs v d hd h.2.2.2]
theorem all_L : ∀ (kind : Int) (l : List Tm) (i : Nat) (v d : Int), 0 ≤ d → okSL P Q l → allL fr fa wi nm kind l i v d = allL fr' fa' wi' nm' kind l i v d
 | _, [], _, _, _, _, _ => by rw [allL, allL]
 | kind, t :: r, i, v, d, hd, h => by
  have hb := bindsI_01 kind (i : Int)
  rw [okSL] at h
  rw [allL, allL, all_T t _ _ (by omega) h.1, all_L kind r (i + 1) v d hd h.2]
theorem all_Bs : ∀ (kind : Int) (l : List Br) (v d : Int), 0 ≤ d → okSB P Q l → allBs fr fa wi nm kind l v d = allBs fr' fa' wi' nm' kind l v d
 | _, [], _, _, _, _ => by rw [allBs, allBs]
 | kind, b :: r, v, d, hd, h => by
  rw [okSB] at h
  rw [allBs, allBs, all_Br kind b v d hd h.1, all_Bs kind r v d hd h.2]
theorem all_Br : ∀ (kind : Int) (b : Br) (v d : Int), 0 ≤ d → okSR P Q b → allBr fr fa wi nm kind b v d = allBr fr' fa' wi' nm' kind b v d
 | kind, ⟨f, ks⟩, v, d, hd, h => by
  have hm := moreI_01 kind
  rw [okSR] at h
  rw [allBr, allBr, all_P ks v _ (by omega) h.2]
theorem all_P : ∀ (l : List Tm) (v d : Int), 0 ≤ d → okSL P Q l → allP fr fa wi nm l v d = allP fr' fa' wi' nm' l v d
 | [], _, _, _, _ => by rw [allP, allP]
 | t :: r, v, d, hd, h => by
  rw [okSL] at h
  rw [allP, allP, all_T t v d hd h.1, all_P r v d hd h.2]
end
end
theorem all_same (t : Tm) (h : okS rowIn nameIn t) : okS PFp PNp t ∧ okS PFr PNr t ∧ allT frP faP wiP nmP t 0 0 = allT frR faR wiR nmR t 0 0 :=
 ⟨okS_imp (fun _ hl => (rowP hl).1) (fun _ hs => (nameP hs).1) t h, okS_imp (fun _ hl => (rowR hl).1) (fun _ hs => (nameR hs).1) t h,
  all_T (fun l hl => ⟨(rowP hl).2.1.trans (rowR hl).2.1.symm, (rowP hl).2.2.1.trans (rowR hl).2.2.1.symm, fun d hd => ((rowP hl).2.2.2 d hd).trans ((rowR hl).2.2.2 d hd).symm⟩) (fun s hs => (nameP hs).2.trans (nameR hs).2.symm) t 0 0 (by omega) h⟩
mutual
theorem bk_T : ∀ t : Tm, sizeT t ≤ bkT t ∧ depthT t ≤ bkT t ∧ t.f4.length ≤ bkT t ∧ t.f5.length ≤ bkT t
 | ⟨k, n, s, r, ks, bs⟩ => by
  have h1 := bk_L ks
  have h2 := bk_B bs
  rw [sizeT, depthT, bkT]
  exact ⟨by omega, by omega, by show ks.length ≤ _; omega, by show bs.length ≤ _; omega⟩
theorem bk_L : ∀ l : List Tm, sizeL l ≤ bkL l ∧ depthL l ≤ bkL l ∧ l.length ≤ bkL l
 | [] => by rw [sizeL, depthL, bkL]; exact ⟨Nat.le_refl _, Nat.le_refl _, Nat.le_refl _⟩
 | t :: r => by
  have h1 := bk_T t
  have h2 := bk_L r
  have h3 := sizeT_pos t
  rw [sizeL, depthL, bkL, List.length_cons]
  omega
theorem bk_B : ∀ l : List Br, sizeB l ≤ bkB l ∧ depthB l ≤ bkB l ∧ l.length ≤ bkB l
 | [] => by rw [sizeB, depthB, bkB]; exact ⟨Nat.le_refl _, Nat.le_refl _, Nat.le_refl _⟩
 | b :: r => by
  have h1 := bk_R b
  have h2 := bk_B r
  rw [sizeB, depthB, bkB, List.length_cons]
  omega
theorem bk_R : ∀ b : Br, sizeR b + 3 ≤ bkR b ∧ depthR b + 3 ≤ bkR b ∧ b.f1.length + 3 ≤ bkR b
 | ⟨f, ks⟩ => by
  have h1 := bk_L ks
  rw [sizeR, depthR, bkR]
  exact ⟨by omega, by omega, by show ks.length + 3 ≤ _; omega⟩
end
theorem bkT_eq (t : Tm) : bkT t = 7 + t.f2.size + 3 * t.f3.length + bkL t.f4 + bkB t.f5 := by
 cases t
 rw [bkT]
theorem bkR_eq (b : Br) : bkR b = 3 + 3 * b.f0.length + bkL b.f1 := by
 cases b
 rw [bkR]
theorem bkL_mem {q : Tm} : ∀ {l : List Tm}, q ∈ l → bkT q ≤ bkL l
 | [], h => absurd h (by simp)
 | t :: r, h => by
  rw [bkL]
  rcases List.mem_cons.1 h with rfl | h
  ·omega
  ·have := bkL_mem h
   omega
theorem bkB_mem {b : Br} : ∀ {l : List Br}, b ∈ l → bkR b ≤ bkB l
 | [], h => absurd h (by simp)
 | t :: r, h => by
  rw [bkB]
  rcases List.mem_cons.1 h with rfl | h
  ·omega
  ·have := bkB_mem h
   omega
theorem bk_kid {t q : Tm} (h : q ∈ t.f4) : bkT q < bkT t := by
 have := bkL_mem h
 rw [bkT_eq t]
 omega
theorem bk_part {t q : Tm} {b : Br} (hb : b ∈ t.f5) (h : q ∈ b.f1) : bkT q < bkT t ∧ b.f1.length ≤ bkT t := by
 have h1 := bkL_mem h
 have h2 := bkB_mem hb
 have h3 := (bk_R b).2.2
 rw [bkR_eq] at h2 h3
 rw [bkT_eq t]
 omega
theorem bk_part' {t : Tm} {b : Br} (hb : b ∈ t.f5) : b.f1.length ≤ bkT t := by
 have h2 := bkB_mem hb
 have h3 := (bk_R b).2.2
 rw [bkT_eq t]
 omega
theorem r_depth : ∀ (N : Nat) (t : Tm), sizeT t ≤ N → bkT t ≤ 1048576 → Ev (fun k => r10Depth.f k t.f0 t.f1 t.f2 t.f3 t.f4 t.f5) ((depthT t : Nat) : Int) := by
 intro N
 induction N with
 | zero => exact fun t h _ => absurd (sizeT_pos t) (by omega)
 | succ N ih =>
  intro t hN hb
  obtain ⟨_, hdb, hl4, hl5⟩ := bk_T t
  generalize hR : depthT t = R at hdb ⊢
  rw [depthT_eq] at hR
  have hl2 : ∀ (i : Nat) (hi : i < t.f5.length), (∀ m : Nat, max m (depthB (t.f5.drop (i + 1))) + 1 = R → Ev (fun k => r10Depth.l1 k (m : Int) ((i + 1 : Nat) : Int) t.f0 t.f1 t.f2 t.f3 t.f4 t.f5) (R : Int)) →
    ∀ (d c m : Nat), c + d = t.f5[i].f1.length → max (max m (depthL (t.f5[i].f1.drop c))) (depthB (t.f5.drop (i + 1))) + 1 = R → Ev (fun k => r10Depth.l2 k (m : Int) (i : Int) (c : Int) t.f0 t.f1 t.f2 t.f3 t.f4 t.f5) (R : Int) := by
   intro i hi hnext d
   have hbl := bk_part' (List.getElem_mem hi)
   induction d with
   | zero =>
    intro c m hc hm
    rw [List.drop_eq_nil_of_le (by omega), depthL] at hm
    refine evU (fun k => by rw [r10Depth.l2]) ?_
    refine Ev.pos (by omega) (Ev.pos (by omega) ?_)
    rw [rd_T90_at hi, ws i (by omega)]
    exact Ev.neg (by omega) (hnext m (by omega))
   | succ d ihd =>
    intro c m hc hm
    have hcl : c < t.f5[i].f1.length := by omega
    have hmem := List.getElem_mem hcl
    have hsz := sizeT_part (List.getElem_mem hi) hmem
    have hbk := (bk_part (List.getElem_mem hi) hmem).1
    have h1 := ih _ (show sizeT t.f5[i].f1[c] ≤ N by omega) (by omega)
    rw [drop_at hcl, depthL] at hm
    refine evU (fun k => by rw [r10Depth.l2]) ?_
    refine Ev.pos (by omega) (Ev.pos (by omega) ?_)
    rw [rd_T90_at hi]
    refine Ev.pos (by omega) (Ev.pos (by omega) ?_)
    rw [rd_T49_at hcl, ws c (by omega)]
    refine Ev.bind h1 ?_
    by_cases hg : ((depthT t.f5[i].f1[c] : Nat) : Int) > (m : Int)
    ·exact Ev.pos hg (ihd (c + 1) _ (by omega) (by omega))
    ·exact Ev.neg hg (ihd (c + 1) _ (by omega) (by omega))
  have hl1 : ∀ (d i m : Nat), i + d = t.f5.length → max m (depthB (t.f5.drop i)) + 1 = R → Ev (fun k => r10Depth.l1 k (m : Int) (i : Int) t.f0 t.f1 t.f2 t.f3 t.f4 t.f5) (R : Int) := by
   intro d
   induction d with
   | zero =>
    intro i m hi hm
    rw [List.drop_eq_nil_of_le (by omega), depthB] at hm
    refine evU (fun k => by rw [r10Depth.l1]) ?_
    refine Ev.neg (by omega) (Ev.const ?_)
    rw [ws m (by omega), show m + 1 = R by omega]
   | succ d ihd =>
    intro i m hi hm
    have hil : i < t.f5.length := by omega
    rw [drop_at hil, depthB, depthR_eq] at hm
    refine evU (fun k => by rw [r10Depth.l1]) ?_
    refine Ev.pos (by omega) ?_
    exact hl2 i hil (fun m hm2 => ihd (i + 1) m (by omega) hm2) t.f5[i].f1.length 0 m (by omega) (by rw [List.drop_zero]; omega)
  have hl0 : ∀ (d c m : Nat), c + d = t.f4.length → max (max m (depthL (t.f4.drop c))) (depthB t.f5) + 1 = R → Ev (fun k => r10Depth.l0 k (m : Int) (c : Int) t.f0 t.f1 t.f2 t.f3 t.f4 t.f5) (R : Int) := by
   intro d
   induction d with
   | zero =>
    intro c m hc hm
    rw [List.drop_eq_nil_of_le (by omega), depthL] at hm
    refine evU (fun k => by rw [r10Depth.l0]) ?_
    refine Ev.neg (by omega) ?_
    exact hl1 t.f5.length 0 m (by omega) (by rw [List.drop_zero]; omega)
   | succ d ihd =>
    intro c m hc hm
    have hcl : c < t.f4.length := by omega
    have hmem := List.getElem_mem hcl
    have hsz := sizeT_kid hmem
    have hbk := bk_kid hmem
    have h1 := ih _ (show sizeT t.f4[c] ≤ N by omega) (by omega)
    rw [drop_at hcl, depthL] at hm
    refine evU (fun k => by rw [r10Depth.l0]) ?_
    refine Ev.pos (by omega) (Ev.pos (by omega) ?_)
    rw [rd_T49_at hcl, ws c (by omega)]
    refine Ev.bind h1 ?_
    by_cases hg : ((depthT t.f4[c] : Nat) : Int) > (m : Int)
    ·exact Ev.pos hg (ihd (c + 1) _ (by omega) (by omega))
    ·exact Ev.neg hg (ihd (c + 1) _ (by omega) (by omega))
  refine evU (fun k => by rw [r10Depth.f]) ?_
  exact hl0 t.f4.length 0 0 (by omega) (by rw [List.drop_zero]; omega)
theorem r_size : ∀ (N : Nat) (t : Tm), sizeT t ≤ N → bkT t ≤ 1048576 → Ev (fun k => r10Size.f k t.f0 t.f1 t.f2 t.f3 t.f4 t.f5) ((sizeT t : Nat) : Int) := by
 intro N
 induction N with
 | zero => exact fun t h _ => absurd (sizeT_pos t) (by omega)
 | succ N ih =>
  intro t hN hb
  obtain ⟨hdb, _, hl4, hl5⟩ := bk_T t
  have hN' := hN
  generalize hR : sizeT t = R at hdb ⊢
  rw [sizeT_eq] at hR
  have wa : ∀ a b : Nat, a + b ≤ R → wrap64 ((a : Int) + (b : Int)) = ((a + b : Nat) : Int) := fun a b h => by unfold wrap64; omega
  have hl2 : ∀ (i : Nat) (hi : i < t.f5.length), (∀ m : Nat, m + sizeB (t.f5.drop (i + 1)) = R → Ev (fun k => r10Size.l1 k (m : Int) ((i + 1 : Nat) : Int) t.f0 t.f1 t.f2 t.f3 t.f4 t.f5) (R : Int)) →
    ∀ (d c m : Nat), c + d = t.f5[i].f1.length → m + sizeL (t.f5[i].f1.drop c) + sizeB (t.f5.drop (i + 1)) = R → Ev (fun k => r10Size.l2 k (m : Int) (i : Int) (c : Int) t.f0 t.f1 t.f2 t.f3 t.f4 t.f5) (R : Int) := by
   intro i hi hnext d
   have hbl := bk_part' (List.getElem_mem hi)
   induction d with
   | zero =>
    intro c m hc hm
    rw [List.drop_eq_nil_of_le (by omega), sizeL] at hm
    refine evU (fun k => by rw [r10Size.l2]) ?_
    refine Ev.pos (by omega) (Ev.pos (by omega) ?_)
    rw [rd_T90_at hi, ws i (by omega)]
    exact Ev.neg (by omega) (hnext m (by omega))
   | succ d ihd =>
    intro c m hc hm
    have hcl : c < t.f5[i].f1.length := by omega
    have hmem := List.getElem_mem hcl
    have hsz := sizeT_part (List.getElem_mem hi) hmem
    have hbk := (bk_part (List.getElem_mem hi) hmem).1
    have h1 := ih _ (show sizeT t.f5[i].f1[c] ≤ N by omega) (by omega)
    rw [drop_at hcl, sizeL] at hm
    refine evU (fun k => by rw [r10Size.l2]) ?_
    refine Ev.pos (by omega) (Ev.pos (by omega) ?_)
    rw [rd_T90_at hi]
    refine Ev.pos (by omega) (Ev.pos (by omega) ?_)
    rw [rd_T49_at hcl, ws c (by omega)]
    refine Ev.bind h1 ?_
    rw [wa m _ (by omega)]
    exact ihd (c + 1) _ (by omega) (by omega)
  have hl1 : ∀ (d i m : Nat), i + d = t.f5.length → m + sizeB (t.f5.drop i) = R → Ev (fun k => r10Size.l1 k (m : Int) (i : Int) t.f0 t.f1 t.f2 t.f3 t.f4 t.f5) (R : Int) := by
   intro d
   induction d with
   | zero =>
    intro i m hi hm
    rw [List.drop_eq_nil_of_le (by omega), sizeB] at hm
    refine evU (fun k => by rw [r10Size.l1]) ?_
    refine Ev.neg (by omega) (Ev.const ?_)
    rw [show m = R by omega]
   | succ d ihd =>
    intro i m hi hm
    have hil : i < t.f5.length := by omega
    rw [drop_at hil, sizeB, sizeR_eq] at hm
    refine evU (fun k => by rw [r10Size.l1]) ?_
    refine Ev.pos (by omega) ?_
    exact hl2 i hil (fun m hm2 => ihd (i + 1) m (by omega) hm2) t.f5[i].f1.length 0 m (by omega) (by rw [List.drop_zero]; omega)
  have hl0 : ∀ (d c m : Nat), c + d = t.f4.length → m + sizeL (t.f4.drop c) + sizeB t.f5 = R → Ev (fun k => r10Size.l0 k (m : Int) (c : Int) t.f0 t.f1 t.f2 t.f3 t.f4 t.f5) (R : Int) := by
   intro d
   induction d with
   | zero =>
    intro c m hc hm
    rw [List.drop_eq_nil_of_le (by omega), sizeL] at hm
    refine evU (fun k => by rw [r10Size.l0]) ?_
    refine Ev.neg (by omega) ?_
    exact hl1 t.f5.length 0 m (by omega) (by rw [List.drop_zero]; omega)
   | succ d ihd =>
    intro c m hc hm
    have hcl : c < t.f4.length := by omega
    have hmem := List.getElem_mem hcl
    have hsz := sizeT_kid hmem
    have hbk := bk_kid hmem
    have h1 := ih _ (show sizeT t.f4[c] ≤ N by omega) (by omega)
    rw [drop_at hcl, sizeL] at hm
    refine evU (fun k => by rw [r10Size.l0]) ?_
    refine Ev.pos (by omega) (Ev.pos (by omega) ?_)
    rw [rd_T49_at hcl, ws c (by omega)]
    refine Ev.bind h1 ?_
    rw [wa m _ (by omega)]
    exact ihd (c + 1) _ (by omega) (by omega)
  refine evU (fun k => by rw [r10Size.f]) ?_
  exact hl0 t.f4.length 0 1 (by omega) (by rw [List.drop_zero]; omega)
noncomputable def rtV (t : Tm) : Int := if 200 < depthT t then 62 else if 20000 < sizeT t then 221 else if allT frP faP wiP nmP t 0 0 = true then 0 else 100
theorem tm_eta (t : Tm) : (⟨t.f0, t.f1, t.f2, t.f3, t.f4, t.f5⟩ : Tm) = t := by
 cases t
 rfl
theorem right_evS (t : Tm) (h : okS rowIn nameIn t) (hsz : sizeT t ≤ 900000000) : Ev (fun k => te_Right.f k t.f0 t.f1 t.f2 t.f3 t.f4 t.f5 0 0) (rtV t) := by
 have h1 : okS PFp PNp t := okS_imp (fun _ hl => (rowP hl).1) (fun _ hs => (nameP hs).1) t h
 have hsh : te_shallo.f t.f0 t.f1 t.f2 t.f3 t.f4 t.f5 200 = some (decide (depthT t ≤ 200)) := by
  unfold te_shallo.f
  rw [if_pos (by decide), show Int.toNat 200 = 200 from rfl, tm_eta]
 have hsm : te_small.f t.f0 t.f1 t.f2 t.f3 t.f4 t.f5 20000 = some (decide (sizeT t ≤ 20000)) := by
  unfold te_small.f
  rw [if_pos (by decide), show Int.toNat 20000 = 20000 from rfl, tm_eta]
 have hal : term_all.f t.f0 t.f1 t.f2 t.f3 t.f4 t.f5 0 0 true = some (allT frP faP wiP nmP t 0 0) := by
  have hG : allG t 0 0 true := by
   unfold allG
   exact ⟨rfl, h1, by omega, by omega, by omega, by omega⟩
  unfold term_all.f
  rw [tm_eta]
  exact if_pos hG
 unfold rtV
 refine evS (fun k => by rw [te_Right.f]) ?_
 refine Ev.neg (by decide) (Ev.neg (by decide) ?_)
 rw [show decide ((0 : Int) > 24) = false by decide]
 refine evU (fun k => by rw [te_Right.j0]) ?_
 refine Ev.neg Bool.false_ne_true ?_
 by_cases d1 : 200 < depthT t
 ·rw [if_pos d1]
  refine Ev.bindc (a := 62) ?_ (Ev.neg (by decide) (Ev.now _))
  unfold te_sized.f
  rw [hsh, Option.bind_some, if_neg (by rw [decide_eq_true_iff]; omega)]
 ·rw [if_neg d1]
  by_cases d2 : 20000 < sizeT t
  ·rw [if_pos d2]
   refine Ev.bindc (a := 221) ?_ (Ev.neg (by decide) (Ev.now _))
   unfold te_sized.f
   rw [hsh, Option.bind_some, if_pos (by rw [decide_eq_true_iff]; omega), hsm, Option.bind_some, if_neg (by rw [decide_eq_true_iff]; omega)]
  ·rw [if_neg d2]
   refine Ev.bindc (a := 0) ?_ (Ev.pos rfl ?_)
   ·unfold te_sized.f
    rw [hsh, Option.bind_some, if_pos (by rw [decide_eq_true_iff]; omega), hsm, Option.bind_some, if_pos (by rw [decide_eq_true_iff]; omega)]
   ·rw [hal]
    refine Ev.bindc rfl ?_
    by_cases d3 : allT frP faP wiP nmP t 0 0 = true
    ·rw [if_pos d3, if_pos d3]
     exact Ev.now _
    ·rw [if_neg d3, if_neg d3]
     exact Ev.now _
theorem right_ev (t : Tm) (h : okS rowIn nameIn t) (hb : bkT t ≤ 1048576) : Ev (fun k => te_Right.f k t.f0 t.f1 t.f2 t.f3 t.f4 t.f5 0 0) (rtV t) := right_evS t h (by have := (bk_T t).1; omega)
theorem Right_ev (t : Tm) (h : okS rowIn nameIn t) (hb : bkT t ≤ 1048576) : Ev (fun k => r10Right.f k t.f0 t.f1 t.f2 t.f3 t.f4 t.f5 0 0) (rtV t) := by
 obtain ⟨h1, h2, h3⟩ := all_same t h
 have hsz := (bk_T t).1
 have hd := r_depth _ t (Nat.le_refl _) hb
 have hs := r_size _ t (Nat.le_refl _) hb
 have hal : r10All.f t.f0 t.f1 t.f2 t.f3 t.f4 t.f5 0 0 true = some (allT frP faP wiP nmP t 0 0) := by
  have hG : rallG t 0 0 true := by
   unfold rallG
   exact ⟨rfl, h2, by omega, by omega, by omega, by omega⟩
  unfold r10All.f
  rw [h3, tm_eta]
  exact if_pos hG
 have hsd : Ev (fun k => r10sized.f k t.f0 t.f1 t.f2 t.f3 t.f4 t.f5) (if 200 < depthT t then 62 else if 20000 < sizeT t then 221 else 0) := by
  refine evS (fun k => by rw [r10sized.f]) ?_
  refine Ev.bind hd ?_
  by_cases d1 : 200 < depthT t
  ·rw [if_pos d1]
   exact Ev.pos (by omega) (Ev.now _)
  ·rw [if_neg d1]
   refine Ev.neg (by omega) (Ev.bind hs ?_)
   by_cases d2 : 20000 < sizeT t
   ·rw [if_pos d2]
    exact Ev.pos (by omega) (Ev.now _)
   ·rw [if_neg d2]
    exact Ev.neg (by omega) (Ev.now _)
 unfold rtV
 refine evS (fun k => by rw [r10Right.f]) ?_
 refine Ev.neg (by decide) (Ev.neg (by decide) ?_)
 rw [show decide ((0 : Int) > 24) = false by decide]
 refine evU (fun k => by rw [r10Right.j0]) ?_
 refine Ev.neg Bool.false_ne_true (Ev.bind hsd ?_)
 by_cases d1 : 200 < depthT t
 ·rw [if_pos d1, if_pos d1]
  exact Ev.neg (by decide) (Ev.now _)
 ·rw [if_neg d1, if_neg d1]
  by_cases d2 : 20000 < sizeT t
  ·rw [if_pos d2, if_pos d2]
   exact Ev.neg (by decide) (Ev.now _)
  ·rw [if_neg d2, if_neg d2]
   refine Ev.pos rfl ?_
   rw [hal]
   refine Ev.bindc rfl ?_
   by_cases d3 : allT frP faP wiP nmP t 0 0 = true
   ·rw [if_pos d3, if_pos d3]
    exact Ev.now _
   ·rw [if_neg d3, if_neg d3]
    exact Ev.now _
def By (l : List Int) : Prop := ∀ x ∈ l, 0 ≤ x ∧ x < 256
theorem By.app {a b : List Int} (ha : By a) (hb : By b) : By (a ++ b) := fun x hx => (List.mem_append.1 hx).elim (ha x) (hb x)
theorem By.nil : By [] := fun x hx => by cases hx
theorem By.flat {α : Type} {l : List α} {g : α → List Int} (h : ∀ x ∈ l, By (g x)) : By (l.flatMap g) := fun y hy => by
 obtain ⟨x, hx, hxy⟩ := List.mem_flatMap.1 hy
 exact h x hx y hxy
def stepN (s : Nat) (b : Int) : Nat := ((s ^^^ b.toNat) * 16777619) % 4294967296
def sumN (s : Nat) (l : List Int) : Nat := l.foldl stepN s
theorem stepN_lt (s : Nat) (b : Int) : stepN s b < 4294967296 := Nat.mod_lt _ (by decide)
theorem sumN_lt (l : List Int) : ∀ s, s < 4294967296 → sumN s l < 4294967296 := by
 induction l with
 | nil => exact fun s h => h
 | cons b l ih => exact fun s _ => ih _ (stepN_lt s b)
theorem xor_low (s b : Nat) (hb : b < 256) : s ^^^ b = 256 * (s / 256) + ((s % 256) ^^^ b) := by
 have h1 : (s ^^^ b) % 2 ^ 8 = (s % 2 ^ 8) ^^^ (b % 2 ^ 8) := Nat.xor_mod_two_pow
 have h2 : (s ^^^ b) / 2 ^ 8 = (s / 2 ^ 8) ^^^ (b / 2 ^ 8) := Nat.xor_div_two_pow
 rw [Nat.mod_eq_of_lt (show b < 2 ^ 8 from hb)] at h1
 rw [Nat.div_eq_of_lt (show b < 2 ^ 8 from hb), Nat.xor_zero] at h2
 have h3 := Nat.div_add_mod (s ^^^ b) (2 ^ 8)
 rw [h1, h2] at h3
 exact h3.symm
theorem xor64 (a b : Nat) (ha : a < 256) (hb : b < 256) : Go.bits .xor .i64 (a : Int) (b : Int) = ((a ^^^ b : Nat) : Int) := by
 have hx : a ^^^ b < 2 ^ 8 := Nat.xor_lt_two_pow (by omega) (by omega)
 have h1 : (BitVec.ofInt 64 (a : Int)).toNat = a := by
  rw [BitVec.ofInt_natCast, BitVec.toNat_ofNat]; exact Nat.mod_eq_of_lt (by omega)
 have h2 : (BitVec.ofInt 64 (b : Int)).toNat = b := by
  rw [BitVec.ofInt_natCast, BitVec.toNat_ofNat]; exact Nat.mod_eq_of_lt (by omega)
 show IntKind.i64.wrap ((BitVec.ofInt 64 (a : Int) ^^^ BitVec.ofInt 64 (b : Int)).toNat : Int) = _
 rw [BitVec.toNat_xor, h1, h2]
 generalize a ^^^ b = q at hx
 simp [IntKind.wrap, IntKind.bits, IntKind.signed]
 omega
theorem rd_at {l : List Int} {i : Nat} (h : i < l.length) : rd l (i : Int) = l[i] := by
 unfold rd
 rw [Int.toNat_natCast, List.getD_eq_getElem?_getD, List.getElem?_eq_getElem h]
 rfl
theorem psum_l0 (l : List Int) (hl : l.length ≤ 100000000) (hB : By l) : ∀ (d i s : Nat), i + d = l.length → s < 4294967296 → Ev (fun k => pack_Sum.l0 k (s : Int) l (l.length : Int) (i : Int)) ((sumN s (l.drop i) : Nat) : Int) := by
 intro d
 induction d with
 | zero =>
  intro i s hi hs
  rw [List.drop_eq_nil_of_le (by omega)]
  refine evU (fun k => by rw [pack_Sum.l0]) ?_
  exact Ev.neg (by omega) (Ev.now _)
 | succ d ih =>
  intro i s hi hs
  have hil : i < l.length := by omega
  obtain ⟨b0, b1⟩ := hB l[i] (List.getElem_mem hil)
  obtain ⟨b, hb⟩ := Int.eq_ofNat_of_zero_le b0
  have hstep : ((Go.bits .xor .u32 (s : Int) (l[i] % 4294967296)) * 16777619) % 4294967296 = ((stepN s l[i] : Nat) : Int) := by
   unfold stepN
   rw [hb, show ((b : Int) % 4294967296) = (b : Int) by omega, u32_xor_nat s b hs (by omega), Int.toNat_natCast]
   omega
  rw [drop_at hil]
  refine evU (fun k => by rw [pack_Sum.l0]) ?_
  refine Ev.pos (by omega) (Ev.pos (by omega) (Ev.pos (by omega) ?_))
  rw [rd_at hil, hstep, ws i (by omega)]
  exact ih (i + 1) _ (by omega) (stepN_lt _ _)
theorem psum (l : List Int) (hl : l.length ≤ 100000000) (hB : By l) : Ev (fun k => pack_Sum.f k l) ((sumN 2166136261 l : Nat) : Int) := by
 refine evS (fun k => by rw [pack_Sum.f]) ?_
 exact psum_l0 l hl hB l.length 0 2166136261 (by omega) (by decide)
theorem rsum_l0 (l : List Int) (hl : l.length ≤ 100000000) (hB : By l) : ∀ (d i s : Nat), i + d = l.length → s < 4294967296 → Ev (fun k => r36Sum.l0 k l (s : Int) (i : Int)) ((sumN s (l.drop i) : Nat) : Int) := by
 intro d
 induction d with
 | zero =>
  intro i s hi hs
  rw [List.drop_eq_nil_of_le (by omega)]
  refine evU (fun k => by rw [r36Sum.l0]) ?_
  exact Ev.neg (by omega) (Ev.now _)
 | succ d ih =>
  intro i s hi hs
  have hil : i < l.length := by omega
  obtain ⟨b0, b1⟩ := hB l[i] (List.getElem_mem hil)
  obtain ⟨b, hb⟩ := Int.eq_ofNat_of_zero_le b0
  have hx : (s % 256) ^^^ b < 2 ^ 8 := Nat.xor_lt_two_pow (by omega) (by omega)
  have hstep : Int.tmod (wrap64 ((wrap64 ((wrap64 ((s : Int) - (Int.tmod (s : Int) 256))) + (Go.bits .xor .i64 (Int.tmod (s : Int) 256) (wrap64 l[i])))) * 16777619)) 4294967296 = ((stepN s l[i] : Nat) : Int) := by
   unfold stepN
   rw [hb, show Int.tmod (s : Int) 256 = ((s % 256 : Nat) : Int) from rfl, w64 (a := (b : Int)) (by omega) (by omega), xor64 (s % 256) b (by omega) (by omega), w64 (a := (s : Int) - ((s % 256 : Nat) : Int)) (by omega) (by omega), w64 (a := (s : Int) - ((s % 256 : Nat) : Int) + _) (by omega) (by omega), w64 (by omega) (by omega), Int.toNat_natCast, xor_low s b (by omega)]
   generalize s % 256 ^^^ b = q at hx ⊢
   rw [show (s : Int) - ((s % 256 : Nat) : Int) + (q : Int) = ((256 * (s / 256) + q : Nat) : Int) by omega]
   rfl
  rw [drop_at hil]
  refine evU (fun k => by rw [r36Sum.l0]) ?_
  refine Ev.pos (by omega) (Ev.pos (by omega) ?_)
  rw [rd_at hil, hstep, ws i (by omega)]
  exact ih (i + 1) _ (by omega) (stepN_lt _ _)
theorem rsum (l : List Int) (hl : l.length ≤ 100000000) (hB : By l) : Ev (fun k => r36Sum.f k l) ((sumN 2166136261 l : Nat) : Int) := by
 refine evS (fun k => by rw [r36Sum.f]) ?_
 exact rsum_l0 l hl hB l.length 0 2166136261 (by omega) (by decide)
def four (s : Nat) : List Int := [((s / 16777216 % 256 : Nat) : Int), ((s / 65536 % 256 : Nat) : Int), ((s / 256 % 256 : Nat) : Int), ((s % 256 : Nat) : Int)]
theorem sealed_ev (l : List Int) (hl : l.length ≤ 100000000) (hB : By l) : Ev (fun k => pa_sealed.f k l) (l ++ four (sumN 2166136261 l)) := by
 have hs := sumN_lt l 2166136261 (by decide)
 refine evS (fun k => by rw [pa_sealed.f]) ?_
 refine Ev.bind (psum l hl hB) (Ev.bindc rfl (Ev.pos ?_ (Ev.const ?_)))
 ·show l.length + 4 < 140737488355328
  omega
 ·generalize sumN 2166136261 l = s at hs
  unfold four
  rfl
theorem slV (l : List Int) (hl : l.length ≤ 100000000) (hB : By l) : slP l = l ++ four (sumN 2166136261 l) := Ev.val (fun k => pa_sealed.mono _ k) (sealed_ev l hl hB)
theorem numL_by : ∀ (m n : Nat), n ≤ m → By (numL n) := by
 intro m
 induction m with
 | zero =>
  intro n hn
  rw [numL_lt (by omega)]
  intro x hx
  rw [List.mem_singleton.1 hx]
  omega
 | succ m ih =>
  intro n hn
  by_cases h : n < 128
  ·rw [numL_lt h]
   intro x hx
   rw [List.mem_singleton.1 hx]
   omega
  ·rw [numL_ge h]
   intro x hx
   rcases List.mem_cons.1 hx with rfl | hx
   ·omega
   ·exact ih (n / 128) (by omega) x hx
theorem numBy (n : Nat) : By (numL n) := numL_by n n (Nat.le_refl _)
theorem textBy (s : ByteArray) : By (textL s) := by
 refine (numBy _).app fun x hx => ?_
 unfold bytesOf at hx
 obtain ⟨b, _, rfl⟩ := List.mem_map.1 hx
 have := b.toNat_lt
 omega
theorem rowBy (f : List Cl) : By (rowL f) := (numBy _).app (By.flat fun c _ => (numBy _).app (numBy _))
theorem headBy (k n : Int) (s : ByteArray) (r : List Cl) : By (headL k n s r) := by
 unfold headL
 repeat' split
 ·exact numBy _
 ·exact textBy _
 ·exact rowBy _
 ·exact By.nil
mutual
theorem by_T : ∀ t : Tm, By (encT t)
 | ⟨k, n, s, r, ks, bs⟩ => by
  rw [encT]
  intro x hx
  rcases List.mem_cons.1 hx with rfl | hx
  ·omega
  ·have h2 : By (headL k n s r ++ (encL ks ++ if partsI k = 0 then [] else numL bs.length ++ encB bs)) := by
    refine By.app (headBy _ _ _ _) (By.app (by_L ks) ?_)
    split
    ·exact By.nil
    ·exact (numBy _).app (by_B bs)
   exact h2 x hx
theorem by_L : ∀ l : List Tm, By (encL l)
 | [] => by rw [encL]; exact By.nil
 | t :: r => by rw [encL]; exact (by_T t).app (by_L r)
theorem by_B : ∀ l : List Br, By (encB l)
 | [] => by rw [encB]; exact By.nil
 | b :: r => by rw [encB]; exact (by_R b).app (by_B r)
theorem by_R : ∀ b : Br, By (encR b)
 | ⟨f, ks⟩ => by rw [encR]; exact (rowBy f).app (by_L ks)
end
theorem rowLen (f : List Cl) (h : okF f) : (rowL f).length ≤ 5 + 10 * f.length := by
 have h1 := numL_length f.length (by have := h.1; omega)
 have h2 := clsL_length f h.2
 rw [rowL, List.length_append]
 omega
theorem textLen (s : ByteArray) (h : s.size ≤ 2000000) : (textL s).length ≤ 5 + s.size := by
 have h1 := numL_length s.size (by omega)
 rw [textL, List.length_append, bytesOf_length]
 omega
mutual
theorem len_T : ∀ t : Tm, okT t → 3 * (encT t).length ≤ 10 * bkT t
 | ⟨k, n, s, r, ks, bs⟩, h => by
  rw [okT] at h
  obtain ⟨h1, h2, h3, h4, h5⟩ := h
  have e1 := len_L ks h4
  have e2 : (headL k n s r).length ≤ 5 + s.size + 10 * r.length := by
   unfold headL
   split
   ·rename_i hk
    have := numL_length n.toNat (by have := h1 hk; omega)
    omega
   ·split
    ·rename_i hk
     have := textLen s (h2 hk)
     omega
    ·split
     ·rename_i hk
      have := rowLen r (h3 hk)
      omega
     ·simp
  have e3 : 3 * (if partsI k = 0 then [] else numL bs.length ++ encB bs).length ≤ 15 + 10 * bkB bs := by
   split
   ·simp
   ·rename_i hk
    have a1 := numL_length bs.length (by have := (h5 hk).1; omega)
    have a2 := len_B bs (h5 hk).2
    rw [List.length_append]
    omega
  rw [encT, bkT, List.length_cons, List.length_append, List.length_append]
  omega
theorem len_L : ∀ l : List Tm, okL l → 3 * (encL l).length ≤ 10 * bkL l
 | [], _ => by rw [encL]; simp
 | t :: r, h => by
  rw [okL] at h
  have e1 := len_T t h.1
  have e2 := len_L r h.2
  rw [encL, bkL, List.length_append]
  omega
theorem len_B : ∀ l : List Br, okB l → 3 * (encB l).length ≤ 10 * bkB l
 | [], _ => by rw [encB]; simp
 | b :: r, h => by
  rw [okB] at h
  have e1 := len_R b h.1
  have e2 := len_B r h.2
  rw [encB, bkB, List.length_append]
  omega
theorem len_R : ∀ b : Br, okR b → 3 * (encR b).length ≤ 10 * bkR b
 | ⟨f, ks⟩, h => by
  rw [okR] at h
  have e1 := len_L ks h.2
  have e2 := rowLen f h.1
  rw [encR, bkR, List.length_append]
  omega
end
theorem own_var {t : Tm} {v d : Int} (h : ownB frP faP wiP nmP t v d = true) (h1 : t.f0 = 1) (hv : 0 ≤ v) : 0 ≤ t.f1 ∧ t.f1 < v := by
 unfold ownB at h
 split at h
 ·cases h
 ·simp only [Bool.and_eq_true, Bool.or_eq_true, decide_eq_true_eq] at h
  omega
theorem okF_of {l : List Cl} (h : rowIn l) : okF l := ⟨h.2, fun c hc => by
 have := of_decide_eq_true (List.all_eq_true.1 h.1 c hc)
 unfold okC
 omega⟩
theorem bkB_len : ∀ l : List Br, 3 * l.length ≤ bkB l
 | [] => by simp
 | b :: r => by
  have h1 := bk_R b
  have h2 := bkB_len r
  rw [bkB, List.length_cons]
  omega
mutual
theorem ok_T : ∀ (t : Tm) (v d : Int), allT frP faP wiP nmP t v d = true → okS rowIn nameIn t → 0 ≤ v → v + sizeT t ≤ 1000000000 → bkT t ≤ 1048576 → okT t
 | ⟨k, n, s, r, ks, bs⟩, v, d, h, ho, hv, hs, hb => by
  rw [allT] at h
  rw [okS] at ho
  rw [sizeT] at hs
  rw [bkT] at hb
  obtain ⟨h1, h2⟩ := Bool.and_eq_true_iff.1 h
  obtain ⟨_, h3⟩ := Bool.and_eq_true_iff.1 h1
  obtain ⟨h4, h5⟩ := Bool.and_eq_true_iff.1 h2
  have hl := bkB_len bs
  rw [okT]
  refine ⟨fun hk => ?_, fun _ => ho.2.1, fun _ => okF_of ho.1, ok_L k ks 0 v d h4 ho.2.2.1 hv (by omega) (by omega), fun _ => ⟨by omega, ok_Bs k bs v d h5 ho.2.2.2 hv (by omega) (by omega)⟩⟩
  have := own_var h3 hk hv
  exact ⟨this.1, by have h6 : n < v := this.2; omega⟩
theorem ok_L : ∀ (kind : Int) (l : List Tm) (i : Nat) (v d : Int), allL frP faP wiP nmP kind l i v d = true → okSL rowIn nameIn l → 0 ≤ v → v + 1 + sizeL l ≤ 1000000000 → bkL l ≤ 1048576 → okL l
 | _, [], _, _, _, _, _, _, _, _ => by rw [okL]; trivial
 | kind, t :: r, i, v, d, h, ho, hv, hs, hb => by
  have hbi := bindsI_01 kind (i : Int)
  rw [allL] at h
  rw [okSL] at ho
  rw [sizeL] at hs
  rw [bkL] at hb
  obtain ⟨h1, h2⟩ := Bool.and_eq_true_iff.1 h
  rw [okL]
  exact ⟨ok_T t _ _ h1 ho.1 (by omega) (by omega) (by omega), ok_L kind r (i + 1) v d h2 ho.2 hv (by omega) (by omega)⟩
theorem ok_Bs : ∀ (kind : Int) (l : List Br) (v d : Int), allBs frP faP wiP nmP kind l v d = true → okSB rowIn nameIn l → 0 ≤ v → v + 1 + sizeB l ≤ 1000000000 → bkB l ≤ 1048576 → okB l
 | _, [], _, _, _, _, _, _, _ => by rw [okB]; trivial
 | kind, b :: r, v, d, h, ho, hv, hs, hb => by
  rw [allBs] at h
  rw [okSB] at ho
  rw [sizeB] at hs
  rw [bkB] at hb
  obtain ⟨h1, h2⟩ := Bool.and_eq_true_iff.1 h
  rw [okB]
  exact ⟨ok_Br kind b v d h1 ho.1 hv (by omega) (by omega), ok_Bs kind r v d h2 ho.2 hv (by omega) (by omega)⟩
theorem ok_Br : ∀ (kind : Int) (b : Br) (v d : Int), allBr frP faP wiP nmP kind b v d = true → okSR rowIn nameIn b → 0 ≤ v → v + 1 + sizeR b ≤ 1000000000 → bkR b ≤ 1048576 → okR b
 | kind, ⟨f, ks⟩, v, d, h, ho, hv, hs, hb => by
  rw [allBr] at h
  rw [okSR] at ho
  rw [sizeR] at hs
  rw [bkR] at hb
  rw [okR]
  exact ⟨okF_of ho.1, ok_P ks v _ h ho.2 hv (by omega) (by omega)⟩
theorem ok_P : ∀ (l : List Tm) (v d : Int), allP frP faP wiP nmP l v d = true → okSL rowIn nameIn l → 0 ≤ v → v + 1 + sizeL l ≤ 1000000000 → bkL l ≤ 1048576 → okL l
 | [], _, _, _, _, _, _, _ => by rw [okL]; trivial
 | t :: r, v, d, h, ho, hv, hs, hb => by
  rw [allP] at h
  rw [okSL] at ho
  rw [sizeL] at hs
  rw [bkL] at hb
  obtain ⟨h1, h2⟩ := Bool.and_eq_true_iff.1 h
  rw [okL]
  exact ⟨ok_T t _ _ h1 ho.1 (by omega) (by omega) (by omega), ok_P r v d h2 ho.2 hv (by omega) (by omega)⟩
end
theorem okT_of {t : Tm} (h : rtV t = 0) (ho : okS rowIn nameIn t) (hb : bkT t ≤ 1048576) : okT t := by
 have hs := (bk_T t).1
 unfold rtV at h
 split at h
 ·cases h
 ·split at h
  ·cases h
  ·split at h
   ·rename_i h3
    exact ok_T t 0 0 h3 ho (by omega) (by omega) hb
   ·cases h
def nbV (s : ByteArray) : Bool := decide (s.size ≤ 65536) && nmB s
noncomputable def badE (x : En) : Bool := decide (rtV x.f1 ≠ 0) || decide (rtV x.f2 ≠ 0)
def finV (l : List Int) : List Int × Int := if 1048572 < l.length then ([], 3) else (l ++ four (sumN 2166136261 l), 0)
noncomputable def encV (l : List En) : List Int × Int := if namesBad nbV l [] = true then ([], 61) else if l.any badE = true then ([], 100) else finV (encS l)
def bkN (x : En) : Nat := x.f0.size + bkT x.f1 + bkT x.f2
def bkNs (l : List En) : Nat := (l.map bkN).sum
def EnIn (x : En) : Prop := x.f0.size ≤ 1000000 ∧ okS rowIn nameIn x.f1 ∧ okS rowIn nameIn x.f2
theorem bkN_mem {x : En} : ∀ {l : List En}, x ∈ l → bkN x ≤ bkNs l
 | [], h => absurd h (by simp)
 | t :: r, h => by
  rw [bkNs, List.map_cons, List.sum_cons]
  rcases List.mem_cons.1 h with rfl | h
  ·omega
  ·have := bkN_mem h
   unfold bkNs at this
   omega
theorem bkT_pos (t : Tm) : 7 ≤ bkT t := by rw [bkT_eq]; omega
theorem bad_ok {x : En} (h : EnIn x) (hb : bkN x ≤ 1048576) (hx : badE x = false) : okT x.f1 ∧ okT x.f2 := by
 unfold badE at hx
 unfold bkN at hb
 obtain ⟨h1, h2⟩ := Bool.or_eq_false_iff.1 hx
 exact ⟨okT_of (Decidable.not_not.1 (of_decide_eq_false h1)) h.2.1 (by omega), okT_of (Decidable.not_not.1 (of_decide_eq_false h2)) h.2.2 (by omega)⟩
theorem encE_len {x : En} (h : EnIn x) (ho : okT x.f1 ∧ okT x.f2) : (encE x).length ≤ 5 * bkN x := by
 have h0 := textLen x.f0 (by have := h.1; omega)
 have h1 := len_T x.f1 ho.1
 have h2 := len_T x.f2 ho.2
 have h3 := bkT_pos x.f1
 have h4 := bkT_pos x.f2
 rw [encE, List.length_append, List.length_append, bkN]
 omega
theorem encE_by (x : En) : By (encE x) := ((textBy _).app (by_T _)).app (by_T _)
theorem encS_len : ∀ l : List En, (∀ x ∈ l, EnIn x) → bkNs l ≤ 1048576 → l.any badE = false → (l.flatMap encE).length ≤ 5 * bkNs l
 | [], _, _, _ => by simp
 | x :: r, h, hb, hx => by
  rw [List.any_cons] at hx
  obtain ⟨h1, h2⟩ := Bool.or_eq_false_iff.1 hx
  have hb' := hb
  rw [bkNs, List.map_cons, List.sum_cons] at hb'
  have e1 := encE_len (h x List.mem_cons_self) (bad_ok (h x List.mem_cons_self) (by omega) h1)
  have e2 := encS_len r (fun y hy => h y (List.mem_cons_of_mem _ hy)) (by unfold bkNs; omega) h2
  unfold bkNs at e2 ⊢
  rw [List.flatMap_cons, List.length_append, List.map_cons, List.sum_cons]
  omega
theorem encS_by (l : List En) : By (encS l) := (By.app (fun x hx => by simp at hx; omega) (numBy _)).app (By.flat fun x _ => encE_by x)
theorem nb_val (s : ByteArray) : nbP s = nbV s := Ev.val (fun k => pa_named.mono _ k) (namedA s)
theorem rt_val {t : Tm} (h : okS rowIn nameIn t) (hb : bkT t ≤ 1048576) : rtP t = rtV t := Ev.val (fun k => te_Right.mono _ _ _ _ _ _ _ _ k) (right_ev t h hb)
theorem names_val : ∀ (l : List En) (seen : List ByteArray), namesBad nbP l seen = namesBad nbV l seen
 | [], _ => by rw [namesBad, namesBad]
 | x :: r, seen => by rw [namesBad, namesBad, nb_val, names_val r]
theorem any_val : ∀ (l : List En), (∀ x ∈ l, EnIn x) → bkNs l ≤ 1048576 → l.any (fun x => decide (rtP x.f1 ≠ 0) || decide (rtP x.f2 ≠ 0)) = l.any badE
 | [], _, _ => rfl
 | x :: r, h, hb => by
  have hb' := hb
  rw [bkNs, List.map_cons, List.sum_cons, bkN] at hb'
  have hx := h x List.mem_cons_self
  rw [List.any_cons, List.any_cons, any_val r (fun y hy => h y (List.mem_cons_of_mem _ hy)) (by unfold bkNs; omega), rt_val hx.2.1 (by omega), rt_val hx.2.2 (by omega)]
  rfl
theorem wrong_val (l : List En) (h : ∀ x ∈ l, EnIn x) (hb : bkNs l ≤ 1048576) : wrongI nbP rtP l = if namesBad nbV l [] = true then 61 else if l.any badE = true then 100 else 0 := by
 unfold wrongI
 rw [names_val, any_val l h hb]
theorem encode_val (l : List En) (hl : l.length ≤ 1000) (h : ∀ x ∈ l, EnIn x) (hb : bkNs l ≤ 1048576) : pa_Encode.f l = some (encV l) := by
 have hw := wrong_val l h hb
 have hlen : l.any badE = false → (encS l).length ≤ 10000000 := by
  intro hx
  have h1 := encS_len l h hb hx
  have h2 := numL_length l.length (by omega)
  rw [encS, List.length_append, List.length_append]
  show 3 + _ + _ ≤ _
  omega
 have hG : encG l := by
  refine ⟨hl, fun x hx => ?_, fun h0 => ?_⟩
  ·have h1 := h x hx
   have h2 := bkN_mem hx
   unfold bkN at h2
   exact ⟨h1.1, (namedA x.f0).has, (right_ev x.f1 h1.2.1 (by omega)).has, (right_ev x.f2 h1.2.2 (by omega)).has⟩
  ·rw [hw] at h0
   have hx : l.any badE = false := by
    rw [Bool.eq_false_iff]
    intro h3
    rw [h3] at h0
    split at h0
    ·cases h0
    ·cases h0
   refine ⟨hlen hx, fun h4 => (sealed_ev _ (by omega) (encS_by l)).has, fun x hxm => ?_⟩
   have h2 := bkN_mem hxm
   refine bad_ok (h x hxm) (by omega) ?_
   rw [Bool.eq_false_iff]
   intro h3
   rw [List.any_eq_true.2 ⟨x, hxm, h3⟩] at hx
   cases hx
 unfold pa_Encode.f
 refine (if_pos hG).trans (congrArg some ?_)
 unfold encodeI encV
 rw [hw]
 by_cases h1 : namesBad nbV l [] = true
 ·rw [if_pos h1, if_pos h1, if_neg (by decide)]
 ·rw [if_neg h1, if_neg h1]
  by_cases h2 : l.any badE = true
  ·rw [if_pos h2, if_pos h2, if_neg (by decide)]
  ·rw [if_neg h2, if_neg h2, if_pos rfl]
   unfold finV
   rw [slV _ (by have := hlen (Bool.eq_false_iff.2 h2); omega) (encS_by l)]
end Go.Proofs.YtahdjajdaggmjaaGreatDoor.XPa
end
section
set_option linter.unusedVariables false
set_option linter.unusedSimpArgs false
namespace Go.Proofs.YtahdjajdaggmjaaGreatDoor.XPa
open Go.RowKit Go.Proofs.YtahdjajdaggmjaaGreatDoorW.PrintWords Go.Proofs.YtahdjajdaggmjaaGreatDoorW.PrintLast Go.Proofs.YtahdjajdaggmjaaGreatDoorW.PrintMore
theorem sum4 : pa_sealed.f 10 [72, 67, 1, 0] = some [72, 67, 1, 0, 113, 137, 183, 37] := by kernel_rfl
theorem slP4 : slP [72, 67, 1, 0] = [72, 67, 1, 0, 113, 137, 183, 37] := valO_eq (fun k => pa_sealed.mono _ k) sum4
theorem slD4 : slD [72, 67, 1, 0] = [72, 67, 1, 0, 113, 137, 183, 37] := valO_eq (fun k => pa_sealed.mono _ k) sum4
theorem encS_nil : encS [] = [72, 67, 1, 0] := by
 simp [encS, numL_lt]
theorem wrongI_nil (nb : ByteArray → Bool) (rt : Tm → Int) : wrongI nb rt [] = 0 := by
 simp [wrongI, namesBad]
theorem encode_nil : pa_Encode.f [] = some ([72, 67, 1, 0, 113, 137, 183, 37], 0) := by
 have hg : encG [] := by
  refine ⟨by simp, by simp, fun _ => ⟨by rw [encS_nil]; decide, fun _ => ?_, by simp⟩⟩
  rw [encS_nil]
  exact ⟨10, _, sum4⟩
 unfold pa_Encode.f
 refine (if_pos hg).trans (congrArg some ?_)
 unfold encodeI
 rw [if_pos (wrongI_nil _ _), encS_nil, slP4]
 rfl
theorem decode_8 : pa_Decode.f [72, 67, 1, 0, 113, 137, 183, 37] = some ([], 0, 0) := by
 unfold pa_Decode.f
 have ht : ([72, 67, 1, 0, 113, 137, 183, 37] : List Int).take (([72, 67, 1, 0, 113, 137, 183, 37] : List Int).length - 4) = [72, 67, 1, 0] := rfl
 have hn : numS [72, 67, 1, 0] 3 = .ok (0, 4) := by kernel_rfl
 have hg : decG [72, 67, 1, 0, 113, 137, 183, 37] := by
  refine ⟨by decide, ?_, ?_, ?_, ?_⟩
  ·rw [ht]
   exact ⟨10, _, sum4⟩
  ·rw [ht, slD4]
   decide
  ·rw [ht]
   decide
  ·rw [ht]
   exact hn
 rw [if_pos hg]
 have hd : dec0 slD [72, 67, 1, 0, 113, 137, 183, 37] = (0, 0) := by
  unfold dec0
  rw [if_neg (by decide), if_neg (by decide), ht, slD4, if_neg (by simp)]
  have hb : body0 [72, 67, 1, 0] = .ok () := by
   unfold body0
   rw [show headB [72, 67, 1, 0] = none by decide, hn]
   rfl
  rw [hb]
 rw [hd]
theorem works : Ev (fun k => w36works.f k) true := by
 have hs : pack_Sum.f 3 [] = some 2166136261 := by kernel_rfl
 obtain ⟨k0, h0⟩ := Ev.of (fun k => pack_Sum.mono _ k) hs
 refine ⟨k0, fun k hk => ?_⟩
 show w36works.f k = some true
 unfold w36works.f
 rw [encode_nil, Option.bind_some, decode_8, Option.bind_some]
 simp [rd, h0 k hk]
end Go.Proofs.YtahdjajdaggmjaaGreatDoor.XPa
end
