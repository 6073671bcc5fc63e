/-
Walks: term.all.
-/
import Derived.Test.YtahdjajdaggmjaaDoorZown
set_option linter.unusedVariables false
set_option linter.unusedSimpArgs false
namespace Go.Proofs.YtahdjajdaggmjaaDoor.XPo
open Go.RowKit Go.Proofs.YtahdjajdaggmjaaDoorW.PrintWords Go.Proofs.YtahdjajdaggmjaaDoorW.PrintLast Go.Proofs.YtahdjajdaggmjaaDoorW.PrintMore

section
variable (fr fa : List Cl → Bool) (wi : List Cl → Int → Bool) (nm : ByteArray → Bool)
mutual
/-- Have all nodes the forms of their kinds? -/
def allT : Tm → Int → Int → Bool
  | ⟨k, n, s, r, ks, bs⟩, v, d => decide (d ≤ 24) && ownB fr fa wi nm ⟨k, n, s, r, ks, bs⟩ v d && (allL k ks 0 v d && allBs k bs v d)
def allL (kind : Int) : List Tm → Nat → Int → Int → Bool
  | [], _, _, _ => true
  | t :: r, i, v, d => allT t (v + (bindsI kind (i : Int)).1) (d + (bindsI kind (i : Int)).2) && allL kind r (i + 1) v d
def allBs (kind : Int) : List Br → Int → Int → Bool
  | [], _, _ => true
  | b :: r, v, d => allBr kind b v d && allBs kind r v d
def allBr (kind : Int) : Br → Int → Int → Bool
  | ⟨_, ks⟩, v, d => allP ks v (d + moreI kind)
def allP : List Tm → Int → Int → Bool
  | [], _, _ => true
  | t :: r, v, d => allT t v d && allP r v d
end
end
section
variable (PF : List Cl → Prop) (PN : ByteArray → Prop)
mutual
def okS : Tm → Prop
  | ⟨_, _, s, r, ks, bs⟩ => PF r ∧ PN s ∧ okSL ks ∧ okSB bs
def okSL : List Tm → Prop
  | [] => True
  | t :: r => okS t ∧ okSL r
def okSB : List Br → Prop
  | [] => True
  | b :: r => okSR b ∧ okSB r
def okSR : Br → Prop
  | ⟨f, ks⟩ => PF f ∧ okSL ks
end
end
section
variable {PF : List Cl → Prop} {PN : ByteArray → Prop}
theorem okS_eq {t : Tm} (h : okS PF PN t) : PF t.f3 ∧ PN t.f2 ∧ okSL PF PN t.f4 ∧ okSB PF PN t.f5 := by
  cases t
  rwa [okS] at h
theorem okSR_eq {b : Br} (h : okSR PF PN b) : PF b.f0 ∧ okSL PF PN b.f1 := by
  cases b
  rwa [okSR] at h
theorem okSL_mem {k : Tm} : ∀ {l : List Tm}, okSL PF PN l → k ∈ l → okS PF PN k
  | [], _, h => absurd h (by simp)
  | t :: r, ho, h => by
    rw [okSL] at ho
    rcases List.mem_cons.1 h with rfl | h
    · exact ho.1
    · exact okSL_mem ho.2 h
theorem okSB_mem {b : Br} : ∀ {l : List Br}, okSB PF PN l → b ∈ l → okSR PF PN b
  | [], _, h => absurd h (by simp)
  | t :: r, ho, h => by
    rw [okSB] at ho
    rcases List.mem_cons.1 h with rfl | h
    · exact ho.1
    · exact okSB_mem ho.2 h
theorem okS_N {t : Tm} (h : okS PF PN t) : okN PF PN t := ⟨(okS_eq h).1, (okS_eq h).2.1, fun b hb => (okSR_eq (okSB_mem (okS_eq h).2.2.2 hb)).1⟩
end
section
variable {PF : List Cl → Prop} {PN : ByteArray → Prop} {fr fa : List Cl → Bool} {wi : List Cl → Int → Bool} {nm : ByteArray → Bool}
theorem allT_eq (t : Tm) (v d : Int) : allT fr fa wi nm t v d = (decide (d ≤ 24) && ownB fr fa wi nm t v d && (allL fr fa wi nm t.f0 t.f4 0 v d && allBs fr fa wi nm t.f0 t.f5 v d)) := by
  cases t
  rw [allT]
theorem eachL_all3 (p : Tm → Int → Int → Bool) : ∀ l : List (Tm × Int × Int), (eachL (fun k v d (_ : Unit) => (p k v d, ())) l ()).1 = l.all (fun x => p x.1 x.2.1 x.2.2)
  | [] => by rw [eachL]; rfl
  | (k, v, d) :: r => by
    cases h : p k v d
    · rw [eachL_no (by exact h), List.all_cons, h]
      rfl
    · rw [eachL_yes (by exact h), List.all_cons, h, Bool.true_and]
      exact eachL_all3 p r
theorem all_kidsA (kind v d : Int) : ∀ (l : List Tm) (i : Nat), (kidsA kind l i).all (fun x => allT fr fa wi nm x.1 (v + x.2.1) (d + x.2.2)) = allL fr fa wi nm kind l i v d
  | [], _ => by rw [kidsA, allL]; rfl
  | k :: r, i => by rw [kidsA, List.all_cons, all_kidsA kind v d r, allL]
theorem all_kidsP (kind v d : Int) : ∀ (l : List Tm), (kidsP kind l).all (fun x => allT fr fa wi nm x.1 (v + x.2.1) (d + x.2.2)) = allP fr fa wi nm l v (d + moreI kind)
  | [] => by rw [allP]; rfl
  | k :: r => by
    rw [kidsP, List.map_cons, List.all_cons, ← kidsP, all_kidsP kind v d r, allP]
    simp
theorem all_kidsB (kind v d : Int) : ∀ (l : List Br), (kidsB kind l).all (fun x => allT fr fa wi nm x.1 (v + x.2.1) (d + x.2.2)) = allBs fr fa wi nm kind l v d
  | [] => by rw [allBs]; rfl
  | ⟨f, ks⟩ :: r => by
    rw [kidsB, List.flatMap_cons, List.all_append, ← kidsB, all_kidsB kind v d r, allBs, allBr, all_kidsP]
theorem all_kids (t : Tm) (v d : Int) : (eachL (fun k x y (_ : Unit) => (allT fr fa wi nm k (v + x) (d + y), ())) (kidsOf t) ()).1 = (allL fr fa wi nm t.f0 t.f4 0 v d && allBs fr fa wi nm t.f0 t.f5 v d) := by
  rw [eachL_all3 (fun k x y => allT fr fa wi nm k (v + x) (d + y)), kidsOf, List.all_append, all_kidsA, all_kidsB]
set_option maxHeartbeats 1000000 in
set_option maxRecDepth 100000 in
theorem all_fn (vars dims : Int) (h0 : 0 ≤ vars) (h1 : vars ≤ 1000000000) (h2 : 0 ≤ dims) (h3 : dims ≤ 24) (k : Tm) (HIH : Aside0 (∀ (v d : Int) (ks : List Value) (w : World), 0 ≤ v ∧ v ≤ 1 ∧ 0 ≤ d ∧ d ≤ 1 → k45.K w k ks → Calls Tryd.prog 36 #[.agg ks.toArray, .int .i64 (vars + v), .int .i64 (dims + d), .bool true] w fun e w' => e = .returned (.bool (allT fr fa wi nm k (vars + v) (dims + d))) ∧ Below w.heap.size w w'))
    (v d : Int) (hvd : 0 ≤ v ∧ v ≤ 1 ∧ 0 ≤ d ∧ d ≤ 1) (ks : List Value) (bv bd bb : Nat) (w : World) (hK : k45.K w k ks) (hv : w.heap[bv]? = some (.cells #[.int .i64 vars] 3 (0, 0))) (hd : w.heap[bd]? = some (.cells #[.int .i64 dims] 3 (0, 0))) (hb : w.heap[bb]? = some (.cells #[.bool true] 4 (0, 0))) :
    Calls Tryd.prog 45 #[.agg ks.toArray, .int .i64 v, .int .i64 d, .pointer (some ⟨bv, 0, none⟩), .pointer (some ⟨bd, 0, none⟩), .pointer (some ⟨bb, 0, none⟩)] w fun e w' => e = .returned (.bool (allT fr fa wi nm k (vars + v) (dims + d))) ∧ Below w.heap.size w w' := by
  obtain ⟨A3, c3, A4, c4, A5, c5, rfl, l3, g3, l4, g4, l5, g5⟩ := k45_open hK
  have hba : Below w.heap.size w (w.alloc (.cells #[.int .i64 k.f0, .int .i64 k.f1, .string k.f2, .slice A3 k.f3.length c3, .slice A4 k.f4.length c4, .slice A5 k.f5.length c5] 45)) := below_alloc (Below.refl _ _) _
  have hzv := (blk_cell (blk_below hv hba) 0).trans (rfl : _ = some (Value.int .i64 vars))
  have hzd := (blk_cell (blk_below hd hba) 0).trans (rfl : _ = some (Value.int .i64 dims))
  have hzb := (blk_cell (blk_below hb hba) 0).trans (rfl : _ = some (Value.bool true))
  have hc := HIH.out v d _ _ hvd (k45.K_below hba hK)
  have HBA := Aside0.mk hba
  have hd0 : decide (vars < 0) = false := decide_eq_false (by omega)
  obtain ⟨v0, v1, d0, d1⟩ := hvd
  clear hba hv hd hb g3 g4 g5 l3 l4 l5 hK
  go_enter Tryd.func45, Tryd.ntmps45
  go_wp2_with (go_at_call 36; refine hc.mono ?_; rintro e w1 ⟨rfl, hb1⟩; have HB1 := Aside0.mk hb1; clear hb1 hc)
  go_ret
  exact ⟨rfl, below_step HBA.out HB1.out⟩
set_option maxHeartbeats 2000000 in
set_option maxRecDepth 100000 in
theorem term_all (OP : OwnP PF PN fr fa wi nm) (HBinds : Aside0 (∀ (a i : Int) (w : World), Calls Tryd.prog 58 #[.int .i64 a, .int .i64 i] w fun e w' => e = .returned (.tuple #[.int .i64 (bindsI a i).1, .int .i64 (bindsI a i).2]) ∧ Below w.heap.size w w'))
    (eg : ∀ args w, (callFunc 45 args).run Tryd.prog w = .ok (.enter 45 args) w) : ∀ (N : Nat) (k : Tm) (vars dims : Int) (ks : List Value) (w : World), sizeT k ≤ N → okS PF PN k → 0 ≤ vars → vars + N ≤ 1000000000 → 0 ≤ dims → dims ≤ 25 → k45.K w k ks →
    Calls Tryd.prog 36 #[.agg ks.toArray, .int .i64 vars, .int .i64 dims, .bool true] w fun e w' => e = .returned (.bool (allT fr fa wi nm k vars dims)) ∧ Below w.heap.size w w' := by
  intro N
  induction N with
  | zero => intro k vars dims ks w h; have := sizeT_pos k; omega
  | succ N ih =>
  intro k vars dims ks w hN ho h0 h1 h2 h3 hK
  have HIH := Aside0.mk ih
  have HO := Aside0.mk ho
  have hco := fun w1 hb => term_own OP k ks vars dims w1 (k45.K_below hb hK) (okS_N ho) h2 (by omega)
  obtain ⟨A3, c3, A4, c4, A5, c5, rfl, l3, g3, l4, g4, l5, g5⟩ := k45_open hK
  have HK := Aside0.mk hK
  have HQ := Aside0.mk (allT_eq (fr := fr) (fa := fa) (wi := wi) (nm := nm) k vars dims)
  clear g3 g4 g5 l3 l4 l5 hK ih ho
  have hba : Below w.heap.size w ((((w.alloc (.cells #[.int .i64 k.f0, .int .i64 k.f1, .string k.f2, .slice A3 k.f3.length c3, .slice A4 k.f4.length c4, .slice A5 k.f5.length c5] 45)).alloc (.cells #[.int .i64 vars] 3)).alloc (.cells #[.int .i64 dims] 3)).alloc (.cells #[.bool true] 4)) := ((((Below.refl _ _).alloc (Nat.le_refl _) _).alloc (by simp) _).alloc (by simp; omega) _).alloc (by simp; omega) _
  have hbv : ((((w.alloc (.cells #[.int .i64 k.f0, .int .i64 k.f1, .string k.f2, .slice A3 k.f3.length c3, .slice A4 k.f4.length c4, .slice A5 k.f5.length c5] 45)).alloc (.cells #[.int .i64 vars] 3)).alloc (.cells #[.int .i64 dims] 3)).alloc (.cells #[.bool true] 4)).heap[w.heap.size + 1]? = some (.cells #[.int .i64 vars] 3 (0, 0)) := by
    have := blk_new (w.alloc (.cells #[.int .i64 k.f0, .int .i64 k.f1, .string k.f2, .slice A3 k.f3.length c3, .slice A4 k.f4.length c4, .slice A5 k.f5.length c5] 45)) (.cells #[.int .i64 vars] 3)
    rw [World.size_alloc] at this
    exact blk_alloc (blk_alloc this _) _
  have hbd : ((((w.alloc (.cells #[.int .i64 k.f0, .int .i64 k.f1, .string k.f2, .slice A3 k.f3.length c3, .slice A4 k.f4.length c4, .slice A5 k.f5.length c5] 45)).alloc (.cells #[.int .i64 vars] 3)).alloc (.cells #[.int .i64 dims] 3)).alloc (.cells #[.bool true] 4)).heap[w.heap.size + 1 + 1]? = some (.cells #[.int .i64 dims] 3 (0, 0)) := by
    have := blk_new ((w.alloc (.cells #[.int .i64 k.f0, .int .i64 k.f1, .string k.f2, .slice A3 k.f3.length c3, .slice A4 k.f4.length c4, .slice A5 k.f5.length c5] 45)).alloc (.cells #[.int .i64 vars] 3)) (.cells #[.int .i64 dims] 3)
    rw [World.size_alloc, World.size_alloc] at this
    exact blk_alloc this _
  have hbb : ((((w.alloc (.cells #[.int .i64 k.f0, .int .i64 k.f1, .string k.f2, .slice A3 k.f3.length c3, .slice A4 k.f4.length c4, .slice A5 k.f5.length c5] 45)).alloc (.cells #[.int .i64 vars] 3)).alloc (.cells #[.int .i64 dims] 3)).alloc (.cells #[.bool true] 4)).heap[w.heap.size + 1 + 1 + 1]? = some (.cells #[.bool true] 4 (0, 0)) := by
    have := blk_new (((w.alloc (.cells #[.int .i64 k.f0, .int .i64 k.f1, .string k.f2, .slice A3 k.f3.length c3, .slice A4 k.f4.length c4, .slice A5 k.f5.length c5] 45)).alloc (.cells #[.int .i64 vars] 3)).alloc (.cells #[.int .i64 dims] 3)) (.cells #[.bool true] 4)
    rw [World.size_alloc, World.size_alloc, World.size_alloc] at this
    exact this
  have hnb : ((((w.alloc (.cells #[.int .i64 k.f0, .int .i64 k.f1, .string k.f2, .slice A3 k.f3.length c3, .slice A4 k.f4.length c4, .slice A5 k.f5.length c5] 45)).alloc (.cells #[.int .i64 vars] 3)).alloc (.cells #[.int .i64 dims] 3)).alloc (.cells #[.bool true] 4)).heap[w.heap.size]? = some (.cells #[.int .i64 k.f0, .int .i64 k.f1, .string k.f2, .slice A3 k.f3.length c3, .slice A4 k.f4.length c4, .slice A5 k.f5.length c5] 45 (0, 0)) := blk_alloc (blk_alloc (blk_alloc (blk_new _ _) _) _) _
  have hmf : ∀ (fn : Fn) (first cap : Array Value) (w : World), (Instr.makeFunc fn first cap).run Tryd.prog w = .ok (.func fn first cap) w := fun _ _ _ _ => rfl
  by_cases q1 : dims ≤ 24
  · have e1 : decide (24 < dims) = false := decide_eq_false (by omega)
    have hco' := hco _ hba
    cases hw : ownB fr fa wi nm k vars dims
    · have HR : Aside0 (allT fr fa wi nm k vars dims = false) := ⟨by rw [HQ.out, hw, decide_eq_true q1]; rfl⟩
      rw [hw] at hco'
      have HBA := Aside0.mk hba
      clear hw hco hba hbv hbd hbb hnb
      go_enter Tryd.func36, Tryd.ntmps36
      go_wp2_with (go_at_call 43; refine hco'.mono ?_; rintro e w1 ⟨rfl, hb1⟩; have HB1 := Aside0.mk hb1; clear hb1 hco')
      go_ret
      exact ⟨by rw [HR.out]; rfl, below_step HBA.out HB1.out⟩
    · have HR : Aside0 (allT fr fa wi nm k vars dims = (eachL (fun k x y (_ : Unit) => (allT fr fa wi nm k (vars + x) (dims + y), ())) (kidsOf k) ()).1) := ⟨by rw [HQ.out, hw, decide_eq_true q1, all_kids]; rfl⟩
      rw [hw] at hco'
      have HBA := Aside0.mk hba
      have HBV := Aside0.mk hbv
      have HBD := Aside0.mk hbd
      have HBB := Aside0.mk hbb
      have HNB := Aside0.mk hnb
      have HEA : Aside0 (∀ w1, Below w.heap.size w w1 → w1.heap[w.heap.size + 1]? = some (.cells #[.int .i64 vars] 3 (0, 0)) → w1.heap[w.heap.size + 1 + 1]? = some (.cells #[.int .i64 dims] 3 (0, 0)) → w1.heap[w.heap.size + 1 + 1 + 1]? = some (.cells #[.bool true] 4 (0, 0)) →
          Calls Tryd.prog 44 #[.agg #[.int .i64 k.f0, .int .i64 k.f1, .string k.f2, .slice A3 k.f3.length c3, .slice A4 k.f4.length c4, .slice A5 k.f5.length c5], .func (.func 45) #[] #[.pointer (some ⟨w.heap.size + 1, 0, none⟩), .pointer (some ⟨w.heap.size + 1 + 1, 0, none⟩), .pointer (some ⟨w.heap.size + 1 + 1 + 1, 0, none⟩)]] w1 fun e w' => e = .returned (.bool (allT fr fa wi nm k vars dims)) ∧ Below w.heap.size w w') := ⟨fun w1 g0 g1 g2 g3 => by
        rw [HR.out]
        refine (term_each3 HBinds.out 45 (.pointer (some ⟨w.heap.size + 1, 0, none⟩)) (.pointer (some ⟨w.heap.size + 1 + 1, 0, none⟩)) (.pointer (some ⟨w.heap.size + 1 + 1 + 1, 0, none⟩)) (fun k x y (_ : Unit) => (allT fr fa wi nm k (vars + x) (dims + y), ())) (fun _ wx => Below w.heap.size w wx ∧ wx.heap[w.heap.size + 1]? = some (.cells #[.int .i64 vars] 3 (0, 0)) ∧ wx.heap[w.heap.size + 1 + 1]? = some (.cells #[.int .i64 dims] 3 (0, 0)) ∧ wx.heap[w.heap.size + 1 + 1 + 1]? = some (.cells #[.bool true] 4 (0, 0))) (fun wx => Below w.heap.size w wx) (fun q => sizeT q < sizeT k ∧ okS PF PN q) w k _ () w1 eg HK.out
          (fun _ _ h => h.1) (fun _ _ _ h hb => ⟨below_step h.1 hb, blk_below h.2.1 hb, blk_below h.2.2.1 hb, blk_below h.2.2.2 hb⟩)
          (fun q v d s qs w2 hq hvd hs hqK => (all_fn vars dims h0 (by omega) h2 q1 q ⟨fun v d ks w3 hvd hK3 => HIH.out q (vars + v) (dims + d) ks w3 (by omega) hq.2 (by omega) (by omega) (by omega) (by omega) hK3⟩ v d hvd qs _ _ _ w2 (k45.K_below hs.1 hqK) hs.2.1 hs.2.2.1 hs.2.2.2).mono (fun e w' ⟨he, hb⟩ => ⟨he, fun _ => ⟨below_step hs.1 hb, blk_below hs.2.1 hb, blk_below hs.2.2.1 hb, blk_below hs.2.2.2 hb⟩, fun _ => below_step hs.1 hb, KeepT.of_below hb⟩))
          (fun q hq => ⟨sizeT_kid hq, okSL_mem (okS_eq HO.out).2.2.1 hq⟩) (fun b hb q hq => ⟨sizeT_part hb hq, okSL_mem (okSR_eq (okSB_mem (okS_eq HO.out).2.2.2 hb)).2 hq⟩) ⟨g0, g1, g2, g3⟩).mono ?_
        rintro e w' ⟨he, hs1, hn1, _⟩
        refine ⟨he, ?_⟩
        cases hx : (eachL (fun k x y (_ : Unit) => (allT fr fa wi nm k (vars + x) (dims + y), ())) (kidsOf k) ()).1
        · exact hn1 hx
        · exact (hs1 hx).1⟩
      clear hw hco hba hbv hbd hbb hnb
      go_enter Tryd.func36, Tryd.ntmps36
      go_wp2_with (first
        | (go_at_call 43; refine hco'.mono ?_; rintro e w1 ⟨rfl, hb1⟩; have HN1 := Aside0.mk (blk_below HNB.out hb1); have hq0 := (blk_cell HN1.out 0).trans (rfl : _ = some (Value.int .i64 k.f0)); have hq1 := (blk_cell HN1.out 1).trans (rfl : _ = some (Value.int .i64 k.f1)); have hq2 := (blk_cell HN1.out 2).trans (rfl : _ = some (Value.string k.f2)); have hq3 := (blk_cell HN1.out 3).trans (rfl : _ = some (Value.slice A3 k.f3.length c3)); have hq4 := (blk_cell HN1.out 4).trans (rfl : _ = some (Value.slice A4 k.f4.length c4)); have hq5 := (blk_cell HN1.out 5).trans (rfl : _ = some (Value.slice A5 k.f5.length c5)); have hce := HEA.out w1 (below_step HBA.out hb1) (blk_below HBV.out hb1) (blk_below HBD.out hb1) (blk_below HBB.out hb1); clear hb1 hco')
        | (go_at_call 44; refine hce.mono ?_; rintro e w2 ⟨rfl, hb2⟩; have HB2 := Aside0.mk hb2; clear hb2 hce))
      go_ret
      exact ⟨rfl, HB2.out⟩
  · have e1 : decide (24 < dims) = true := decide_eq_true (by omega)
    have HR : Aside0 (allT fr fa wi nm k vars dims = false) := ⟨by rw [HQ.out, decide_eq_false q1]; rfl⟩
    have HBA := Aside0.mk hba
    clear hco hba hbv hbd hbb hnb
    go_enter Tryd.func36, Tryd.ntmps36
    go_wp2
    go_ret
    exact ⟨by rw [HR.out]; rfl, HBA.out⟩
end
end Go.Proofs.YtahdjajdaggmjaaDoor.XPo
