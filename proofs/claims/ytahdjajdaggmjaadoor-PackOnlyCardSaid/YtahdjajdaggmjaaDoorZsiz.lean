/-
Walks: term.shallow, term.small, term.sized.
-/
import Derived.Laws.EntriesVeiled
import Derived.Test.YtahdjajdaggmjaaDoorZeach
set_option linter.unusedVariables false
set_option linter.unusedSimpArgs false
namespace Go.Proofs.YtahdjajdaggmjaaDoor.XPo
open Go.RowKit Go.Proofs.YtahdjajdaggmjaaDoorW.PrintWords Go.Proofs.YtahdjajdaggmjaaDoorW.PrintLast Go.Proofs.YtahdjajdaggmjaaDoorW.PrintMore

/-! ### what each comes to -/
theorem eachL_all (p : Tm → Bool) : ∀ l : List (Tm × Int × Int), (eachL (fun k _ _ (_ : Unit) => (p k, ())) l ()).1 = l.all (fun x => p x.1)
  | [] => by rw [eachL]; rfl
  | (k, v, d) :: r => by
    cases h : p k
    · rw [eachL_no (by exact h), List.all_cons, h]
      rfl
    · rw [eachL_yes (by exact h), List.all_cons, h, Bool.true_and]
      exact eachL_all p r
theorem kidsA_all (kind : Int) (p : Tm → Bool) : ∀ (l : List Tm) (i : Nat), (kidsA kind l i).all (fun x => p x.1) = l.all p
  | [], _ => by rw [kidsA]; rfl
  | k :: r, i => by rw [kidsA, List.all_cons, List.all_cons, kidsA_all kind p r]
theorem kidsB_all (kind : Int) (p : Tm → Bool) : ∀ (l : List Br), (kidsB kind l).all (fun x => p x.1) = l.all (fun b => b.f1.all p)
  | [] => rfl
  | b :: r => by
    rw [kidsB, List.flatMap_cons, List.all_append, List.all_cons, ← kidsB, kidsB_all kind p r]
    congr 1
    rw [kidsP, List.all_map]
    rfl
theorem depthL_all (n : Nat) : ∀ l : List Tm, l.all (fun k => decide (depthT k ≤ n)) = decide (depthL l ≤ n)
  | [] => by rw [depthL]; simp
  | k :: r => by
    rw [List.all_cons, depthL_all n r, depthL]
    rw [Bool.eq_iff_iff]
    simp only [Bool.and_eq_true, decide_eq_true_eq]
    omega
theorem depthB_all (n : Nat) : ∀ l : List Br, l.all (fun b => b.f1.all (fun k => decide (depthT k ≤ n))) = decide (depthB l ≤ n)
  | [] => by rw [depthB]; simp
  | b :: r => by
    rw [List.all_cons, depthB_all n r, depthB, depthL_all, depthR_eq]
    rw [Bool.eq_iff_iff]
    simp only [Bool.and_eq_true, decide_eq_true_eq]
    omega
theorem kids_depth (n : Nat) (t : Tm) : (eachL (fun k _ _ (_ : Unit) => (decide (depthT k ≤ n), ())) (kidsOf t) ()).1 = decide (depthT t ≤ n + 1) := by
  rw [eachL_all (fun k => decide (depthT k ≤ n)), kidsOf, List.all_append, kidsA_all _ (fun k => decide (depthT k ≤ n)), kidsB_all _ (fun k => decide (depthT k ≤ n)), depthL_all, depthB_all, depthT_eq]
  rw [Bool.eq_iff_iff]
  simp only [Bool.and_eq_true, decide_eq_true_eq]
  omega
theorem depthT_pos (t : Tm) : 0 < depthT t := by rw [depthT_eq]; omega
set_option maxHeartbeats 1000000 in
set_option maxRecDepth 100000 in
theorem shallow_fn (n : Nat) (hn : n ≤ 1000000) (HIH : Aside0 (∀ (k : Tm) (ks : List Value) (w : World), k45.K w k ks → Calls Tryd.prog 41 #[.agg ks.toArray, .int .i64 (n : Int)] w fun e w' => e = .returned (.bool (decide (depthT k ≤ n))) ∧ Below w.heap.size w w'))
    (k : Tm) (v d : Int) (ks : List Value) (bl : Nat) (w : World) (hK : k45.K w k ks) (hbl : w.heap[bl]? = some (.cells #[.int .i64 ((n + 1 : Nat) : Int)] 3 (0, 0))) :
    Calls Tryd.prog 53 #[.agg ks.toArray, .int .i64 v, .int .i64 d, .pointer (some ⟨bl, 0, none⟩)] w fun e w' => e = .returned (.bool (decide (depthT k ≤ n))) ∧ Below w.heap.size w w' := by
  obtain ⟨A3, c3, A4, c4, A5, c5, rfl, l3, g3, l4, g4, l5, g5⟩ := k45_open hK
  have HK := Aside0.mk hK
  have hba : Below w.heap.size w (w.alloc (.cells #[.int .i64 k.f0, .int .i64 k.f1, .string k.f2, .slice A3 k.f3.length c3, .slice A4 k.f4.length c4, .slice A5 k.f5.length c5] 45)) := below_alloc (Below.refl _ _) _
  have hz := (blk_cell (blk_below hbl hba) 0).trans (rfl : _ = some (Value.int .i64 ((n + 1 : Nat) : Int)))
  have hc := HIH.out k _ _ (k45.K_below hba hK)
  have HBA := Aside0.mk hba
  clear hba hbl g3 g4 g5 l3 l4 l5 hK
  go_enter Tryd.func53, Tryd.ntmps53
  go_wp2_with (go_at_call 41; refine hc.mono ?_; rintro e w1 ⟨rfl, hb1⟩; have HB1 := Aside0.mk hb1; clear hb1 hc)
  go_ret
  exact ⟨rfl, below_step HBA.out HB1.out⟩
set_option maxHeartbeats 1000000 in
set_option maxRecDepth 100000 in
theorem term_shallow (HBinds : Aside0 (∀ (a i : Int) (w : World), Calls Tryd.prog 58 #[.int .i64 a, .int .i64 i] w fun e w' => e = .returned (.tuple #[.int .i64 (bindsI a i).1, .int .i64 (bindsI a i).2]) ∧ Below w.heap.size w w'))
    (eg : ∀ args w, (callFunc 53 args).run Tryd.prog w = .ok (.enter 53 args) w) : ∀ (n : Nat) (hn : n ≤ 1000000) (k : Tm) (ks : List Value) (w : World), k45.K w k ks →
    Calls Tryd.prog 41 #[.agg ks.toArray, .int .i64 (n : Int)] w fun e w' => e = .returned (.bool (decide (depthT k ≤ n))) ∧ Below w.heap.size w w' := by
  intro n
  induction n with
  | zero =>
    intro hn k ks w hK
    obtain ⟨A3, c3, A4, c4, A5, c5, rfl, l3, g3, l4, g4, l5, g5⟩ := k45_open hK
    have hp := depthT_pos k
    clear l3 g3 l4 g4 l5 g5 hK
    go_enter Tryd.func41, Tryd.ntmps41
    go_wp2
    go_ret
    exact ⟨by rw [decide_eq_false (by omega)]; rfl, ((Below.refl _ _).alloc (Nat.le_refl _) _).alloc (by simp) _⟩
  | succ n ih =>
    intro hn k ks w hK
    have HIH := Aside0.mk (ih (by omega))
    obtain ⟨A3, c3, A4, c4, A5, c5, rfl, l3, g3, l4, g4, l5, g5⟩ := k45_open hK
    have HK := Aside0.mk hK
    clear l3 g3 l4 g4 l5 g5 hK ih
    have hb2 : Below w.heap.size w ((w.alloc (.cells #[.int .i64 k.f0, .int .i64 k.f1, .string k.f2, .slice A3 k.f3.length c3, .slice A4 k.f4.length c4, .slice A5 k.f5.length c5] 45)).alloc (.cells #[.int .i64 ((n + 1 : Nat) : Int)] 3)) := ((Below.refl _ _).alloc (Nat.le_refl _) _).alloc (by simp) _
    have hbl : ((w.alloc (.cells #[.int .i64 k.f0, .int .i64 k.f1, .string k.f2, .slice A3 k.f3.length c3, .slice A4 k.f4.length c4, .slice A5 k.f5.length c5] 45)).alloc (.cells #[.int .i64 ((n + 1 : Nat) : Int)] 3)).heap[w.heap.size + 1]? = some (.cells #[.int .i64 ((n + 1 : Nat) : Int)] 3 (0, 0)) := by
      have := blk_new (w.alloc (.cells #[.int .i64 k.f0, .int .i64 k.f1, .string k.f2, .slice A3 k.f3.length c3, .slice A4 k.f4.length c4, .slice A5 k.f5.length c5] 45)) (.cells #[.int .i64 ((n + 1 : Nat) : Int)] 3)
      rw [World.size_alloc] at this
      exact this
    have hc := term_each1 HBinds.out 53 (.pointer (some ⟨w.heap.size + 1, 0, none⟩)) (fun k _ _ (_ : Unit) => (decide (depthT k ≤ n), ())) (fun _ wx => Below w.heap.size w wx ∧ wx.heap[w.heap.size + 1]? = some (.cells #[.int .i64 ((n + 1 : Nat) : Int)] 3 (0, 0))) (fun wx => Below w.heap.size w wx) (fun _ => True) w k _ () _ eg HK.out
      (fun _ _ h => h.1) (fun _ _ _ h hb => ⟨below_step h.1 hb, blk_below h.2 hb⟩)
      (fun q v d s qs w1 _ _ hs hq => (shallow_fn n (by omega) HIH q v d qs _ w1 (k45.K_below hs.1 hq) hs.2).mono (fun e w' ⟨he, hb⟩ => ⟨he, fun _ => ⟨below_step hs.1 hb, blk_below hs.2 hb⟩, fun _ => below_step hs.1 hb, KeepT.of_below hb⟩))
      (fun _ _ => trivial) (fun _ _ _ _ => trivial) ⟨hb2, hbl⟩
    rw [kids_depth n k] at hc
    have hmf : ∀ (fn : Fn) (first cap : Array Value) (w : World), (Instr.makeFunc fn first cap).run Tryd.prog w = .ok (.func fn first cap) w := fun _ _ _ _ => rfl
    have hd : decide (0 < ((n + 1 : Nat) : Int)) = true := decide_eq_true (by omega)
    have hz := (blk_cell hbl 0).trans (rfl : _ = some (Value.int .i64 ((n + 1 : Nat) : Int)))
    clear hbl hb2
    go_enter Tryd.func41, Tryd.ntmps41
    go_wp2_with (go_at_call 44; refine hc.mono ?_; rintro e w1 ⟨rfl, hs1, hn1, _⟩; have HS1 := Aside0.mk hs1; have HN1 := Aside0.mk hn1; clear hs1 hn1 hc)
    go_ret
    refine ⟨rfl, ?_⟩
    cases hx : decide (depthT k ≤ n + 1)
    · exact HN1.out hx
    · exact (HS1.out hx).1
/-! ### term.small -/
def szF (k : Tm) (_ _ : Int) (m : Nat) : Bool × Nat := (decide (sizeT k ≤ m), m - sizeT k)
def szS : List (Tm × Int × Int) → Nat
  | [] => 0
  | x :: r => sizeT x.1 + szS r
theorem eachL_size : ∀ (l : List (Tm × Int × Int)) (m : Nat), (eachL szF l m).1 = decide (szS l ≤ m) ∧ ((eachL szF l m).1 = true → (eachL szF l m).2 = m - szS l)
  | [], m => by simp [eachL, szS]
  | (k, v, d) :: r, m => by
    by_cases h : sizeT k ≤ m
    · rw [eachL_yes (by simp [szF, h])]
      have ih := eachL_size r (m - sizeT k)
      have hs : szS ((k, v, d) :: r) = sizeT k + szS r := rfl
      simp only [szF]
      rw [hs]
      refine ⟨?_, fun hh => ?_⟩
      · rw [ih.1, Bool.eq_iff_iff, decide_eq_true_eq, decide_eq_true_eq]
        omega
      · rw [ih.2 hh]
        omega
    · rw [eachL_no (by simp [szF, h])]
      have hs : szS ((k, v, d) :: r) = sizeT k + szS r := rfl
      rw [hs]
      refine ⟨?_, fun hh => absurd hh Bool.false_ne_true⟩
      rw [decide_eq_false (by omega)]
theorem szS_append : ∀ (l r : List (Tm × Int × Int)), szS (l ++ r) = szS l + szS r
  | [], r => by simp [szS]
  | x :: l, r => by
    rw [List.cons_append, szS, szS, szS_append l r]
    omega
theorem szS_kidsA (kind : Int) : ∀ (l : List Tm) (i : Nat), szS (kidsA kind l i) = sizeL l
  | [], _ => by rw [kidsA, szS, sizeL]
  | k :: r, i => by rw [kidsA, szS, sizeL, szS_kidsA kind r]
theorem szS_kidsP (kind : Int) : ∀ (l : List Tm), szS (kidsP kind l) = sizeL l
  | [] => by rw [kidsP, List.map_nil, szS, sizeL]
  | k :: r => by
    rw [kidsP, List.map_cons, szS, sizeL, ← kidsP, szS_kidsP kind r]
theorem szS_kidsB (kind : Int) : ∀ (l : List Br), szS (kidsB kind l) = sizeB l
  | [] => by rw [kidsB, List.flatMap_nil, szS, sizeB]
  | b :: r => by rw [kidsB, List.flatMap_cons, szS_append, ← kidsB, szS_kidsB kind r, szS_kidsP, sizeB, sizeR_eq]
theorem szS_kids (t : Tm) : szS (kidsOf t) + 1 = sizeT t := by rw [kidsOf, szS_append, szS_kidsA, szS_kidsB, sizeT_eq]
/-- The count in its block, the function in its own. -/
def CSt (w0 : World) (bm bc : Nat) (m : Nat) (w : World) : Prop :=
  Below w0.heap.size w0 w ∧ w.heap[bm]? = some (.cells #[.int .i64 (m : Int)] 3 (0, 0)) ∧ w.heap[bc]? = some (.cells #[.func (.func 54) #[] #[.pointer (some ⟨bm, 0, none⟩), .pointer (some ⟨bc, 0, none⟩)]] 105 (0, 0))
theorem CSt.below {w0 : World} {bm bc m : Nat} {w w1 : World} (h : CSt w0 bm bc m w) (hb : Below w.heap.size w w1) : CSt w0 bm bc m w1 := ⟨below_step h.1 hb, blk_below h.2.1 hb, blk_below h.2.2 hb⟩
theorem KeepT.set {w w1 : World} {g : Nat} {cs : Array Value} (h : KeepT w w1) (hg : w1.heap[g]? = some (.cells cs 3 (0, 0))) (i : Nat) (u : Value) : KeepT w (w1.setCell ⟨g, i, none⟩ u) :=
  h.trans ⟨by simp, fun q ds hq => blk_far hq (p := ⟨g, i, none⟩) (blk_ne hq hg (by decide)) u⟩
set_option maxHeartbeats 1000000 in
set_option maxRecDepth 100000 in
theorem small_fn (w0 : World) (bm bc : Nat) (eg3 : ∀ args w, (callFunc 54 args).run Tryd.prog w = .ok (.enter 54 args) w)
    (m : Nat) (k : Tm) (HIH : Aside0 (∀ (ks : List Value) (w : World), k45.K w0 k ks → CSt w0 bm bc m w → Calls Tryd.prog 54 #[.agg ks.toArray, .pointer (some ⟨bm, 0, none⟩), .pointer (some ⟨bc, 0, none⟩)] w fun e w' => e = .returned (.bool (decide (sizeT k ≤ m))) ∧ (sizeT k ≤ m → CSt w0 bm bc (m - sizeT k) w') ∧ Below w0.heap.size w0 w' ∧ KeepT w w'))
    (v d : Int) (ks : List Value) (w : World) (hK : k45.K w0 k ks) (hS : CSt w0 bm bc m w) :
    Calls Tryd.prog 55 #[.agg ks.toArray, .int .i64 v, .int .i64 d, .pointer (some ⟨bc, 0, none⟩)] w fun e w' => e = .returned (.bool (decide (sizeT k ≤ m))) ∧ (sizeT k ≤ m → CSt w0 bm bc (m - sizeT k) w') ∧ Below w0.heap.size w0 w' ∧ KeepT w w' := by
  obtain ⟨A3, c3, A4, c4, A5, c5, rfl, l3, g3, l4, g4, l5, g5⟩ := k45_open hK
  have hba : Below w.heap.size w (w.alloc (.cells #[.int .i64 k.f0, .int .i64 k.f1, .string k.f2, .slice A3 k.f3.length c3, .slice A4 k.f4.length c4, .slice A5 k.f5.length c5] 45)) := below_alloc (Below.refl _ _) _
  have hz := (blk_cell (blk_below hS.2.2 hba) 0).trans (rfl : _ = some (Value.func (.func 54) #[] #[.pointer (some ⟨bm, 0, none⟩), .pointer (some ⟨bc, 0, none⟩)]))
  have hc := HIH.out _ _ hK (hS.below hba)
  have HBA := Aside0.mk hba
  clear hba hS g3 g4 g5 l3 l4 l5 hK
  go_enter Tryd.func55, Tryd.ntmps55
  go_wp2_with (go_at_fn 54; refine hc.mono ?_; rintro e w1 ⟨rfl, hs1, hb1, hk1⟩; have HS1 := Aside0.mk hs1; have HB1 := Aside0.mk hb1; have HK1 := Aside0.mk hk1; clear hs1 hb1 hk1 hc)
  go_ret
  exact ⟨rfl, HS1.out, HB1.out, (KeepT.of_below HBA.out).trans HK1.out⟩
set_option maxHeartbeats 1000000 in
set_option maxRecDepth 100000 in
theorem small_count (HBinds : Aside0 (∀ (a i : Int) (w : World), Calls Tryd.prog 58 #[.int .i64 a, .int .i64 i] w fun e w' => e = .returned (.tuple #[.int .i64 (bindsI a i).1, .int .i64 (bindsI a i).2]) ∧ Below w.heap.size w w'))
    (eg3 : ∀ args w, (callFunc 54 args).run Tryd.prog w = .ok (.enter 54 args) w)
    (eg4 : ∀ args w, (callFunc 55 args).run Tryd.prog w = .ok (.enter 55 args) w)
    (w0 : World) (bm bc : Nat) (hbm : w0.heap.size ≤ bm) : ∀ (N : Nat) (k : Tm) (m : Nat) (ks : List Value) (w : World), sizeT k ≤ N → m ≤ 1000000 → k45.K w0 k ks → CSt w0 bm bc m w →
    Calls Tryd.prog 54 #[.agg ks.toArray, .pointer (some ⟨bm, 0, none⟩), .pointer (some ⟨bc, 0, none⟩)] w fun e w' => e = .returned (.bool (decide (sizeT k ≤ m))) ∧ (sizeT k ≤ m → CSt w0 bm bc (m - sizeT k) w') ∧ Below w0.heap.size w0 w' ∧ KeepT w w' := by
  intro N
  induction N with
  | zero => intro k m ks w h; have := sizeT_pos k; omega
  | succ N ih =>
  intro k m ks w hN hm hK hS
  have HIH := Aside0.mk ih
  have hpos := sizeT_pos k
  obtain ⟨A3, c3, A4, c4, A5, c5, rfl, l3, g3, l4, g4, l5, g5⟩ := k45_open hK
  have HBA : Aside0 (Below w.heap.size w (w.alloc (.cells #[.int .i64 k.f0, .int .i64 k.f1, .string k.f2, .slice A3 k.f3.length c3, .slice A4 k.f4.length c4, .slice A5 k.f5.length c5] 45))) := ⟨below_alloc (Below.refl _ _) _⟩
  have HSA := Aside0.mk (hS.below HBA.out)
  have HKA := Aside0.mk (KeepT.of_below HBA.out)
  have HNB := Aside0.mk (blk_new w (.cells #[.int .i64 k.f0, .int .i64 k.f1, .string k.f2, .slice A3 k.f3.length c3, .slice A4 k.f4.length c4, .slice A5 k.f5.length c5] 45))
  have hc1 := (blk_cell HSA.out.2.1 0).trans (rfl : _ = some (Value.int .i64 (m : Int)))
  have hf1 := blk_frozen HSA.out.2.1 0
  have HKK := Aside0.mk hK
  clear ih hS g3 g4 g5 l3 l4 l5 hK HBA
  by_cases h0 : m = 0
  · have hd : decide ((0 : Int) ≤ (m : Int) - 1) = false := decide_eq_false (by omega)
    have hd1 : decide ((1 : Int) ≤ (m : Int)) = false := decide_eq_false (by omega)
    have HX := Aside0.mk (HSA.out.1.setCell hbm (.int .i64 (-1)) (p := ⟨bm, 0, none⟩))
    have HKX := Aside0.mk (HKA.out.set HSA.out.2.1 0 (.int .i64 (-1)))
    have HC2 := Aside0.mk (blk_set HSA.out.2.1 0 (.int .i64 (-1)))
    go_enter Tryd.func54, Tryd.ntmps54
    go_wp2
    go_ret
    exact ⟨by rw [decide_eq_false (by omega)]; rfl, fun h => by omega, HX.out, HKX.out⟩
  · obtain ⟨n, rfl⟩ : ∃ n, m = n + 1 := ⟨m - 1, by omega⟩
    have hS1 : CSt w0 bm bc n ((w.alloc (.cells #[.int .i64 k.f0, .int .i64 k.f1, .string k.f2, .slice A3 k.f3.length c3, .slice A4 k.f4.length c4, .slice A5 k.f5.length c5] 45)).setCell ⟨bm, 0, none⟩ (.int .i64 (n : Int))) := by
      exact ⟨HSA.out.1.setCell hbm _, blk_set HSA.out.2.1 0 (.int .i64 (n : Int)), blk_far HSA.out.2.2 (p := ⟨bm, 0, none⟩) (blk_ne HSA.out.2.2 HSA.out.2.1 (by decide)) _⟩
    have HKX := Aside0.mk (HKA.out.set HSA.out.2.1 0 (.int .i64 (n : Int)))
    have HC2 := Aside0.mk ((KeepT.refl _).set HSA.out.2.1 0 (.int .i64 (n : Int)))
    have HNB2 := Aside0.mk (HC2.out.2 _ _ HNB.out)
    have hsz := szS_kids k
    have hes := eachL_size (kidsOf k) n
    have hc := term_each1 HBinds.out 55 (.pointer (some ⟨bc, 0, none⟩)) szF (fun m wx => m ≤ 1000000 ∧ CSt w0 bm bc m wx) (fun wx => Below w0.heap.size w0 wx) (fun q => sizeT q < sizeT k) w0 k _ n _ eg4 HKK.out
      (fun _ _ h => h.2.1) (fun _ _ _ h hb => ⟨h.1, h.2.below hb⟩)
      (fun q v d s qs w1 hq _ hs hK => (small_fn w0 bm bc eg3 s q ⟨fun ks w h1 h2 => HIH.out q s ks w (by omega) hs.1 h1 h2⟩ v d qs w1 hK hs.2).mono (fun e w' ⟨he, hs2, hb, hk⟩ => ⟨he, fun h => ⟨by have := hs.1; show s - sizeT q ≤ 1000000; omega, hs2 (of_decide_eq_true h)⟩, fun _ => hb, hk⟩))
      (fun _ hq => sizeT_kid hq) (fun _ hb _ hq => sizeT_part hb hq) ⟨by omega, hS1⟩
    rw [hes.1] at hc
    have HES := Aside0.mk hes
    have hmf : ∀ (fn : Fn) (first cap : Array Value) (w : World), (Instr.makeFunc fn first cap).run Tryd.prog w = .ok (.func fn first cap) w := fun _ _ _ _ => rfl
    have hd1 : decide ((0 : Int) ≤ ((n + 1 : Nat) : Int) - 1) = true := decide_eq_true (by omega)
    have hd : decide ((1 : Int) ≤ ((n + 1 : Nat) : Int)) = true := decide_eq_true (by omega)
    have hq0 := (blk_cell HNB2.out 0).trans (rfl : _ = some (Value.int .i64 k.f0))
    have hq1 := (blk_cell HNB2.out 1).trans (rfl : _ = some (Value.int .i64 k.f1))
    have hq2 := (blk_cell HNB2.out 2).trans (rfl : _ = some (Value.string k.f2))
    have hq3 := (blk_cell HNB2.out 3).trans (rfl : _ = some (Value.slice A3 k.f3.length c3))
    have hq4 := (blk_cell HNB2.out 4).trans (rfl : _ = some (Value.slice A4 k.f4.length c4))
    have hq5 := (blk_cell HNB2.out 5).trans (rfl : _ = some (Value.slice A5 k.f5.length c5))
    have hc2 := (blk_cell hS1.2.1 0).trans (rfl : _ = some (Value.int .i64 (n : Int)))
    clear hes h0 hS1
    go_enter Tryd.func54, Tryd.ntmps54
    go_wp2_with (go_at_call 44; refine hc.mono ?_; rintro e w1 ⟨rfl, hs1, hn1, hk1⟩; have HS1 := Aside0.mk hs1; have HN1 := Aside0.mk hn1; have HK1 := Aside0.mk hk1; clear hs1 hn1 hc hk1)
    go_ret
    have hq : decide (sizeT k ≤ n + 1) = decide (szS (kidsOf k) ≤ n) := by
      rw [Bool.eq_iff_iff, decide_eq_true_eq, decide_eq_true_eq]
      omega
    refine ⟨by rw [hq]; rfl, fun h => ?_, ?_, (HKX.out.trans HK1.out)⟩
    · have h2 := HS1.out (decide_eq_true (by omega))
      have h3 := HES.out.2 (by rw [HES.out.1]; exact decide_eq_true (by omega))
      rw [h3, show n - szS (kidsOf k) = n + 1 - sizeT k by omega] at h2
      exact h2.2
    · cases hx : decide (szS (kidsOf k) ≤ n)
      · exact HN1.out hx
      · exact (HS1.out hx).2.1
set_option maxHeartbeats 1000000 in
set_option maxRecDepth 100000 in
theorem term_small (HBinds : Aside0 (∀ (a i : Int) (w : World), Calls Tryd.prog 58 #[.int .i64 a, .int .i64 i] w fun e w' => e = .returned (.tuple #[.int .i64 (bindsI a i).1, .int .i64 (bindsI a i).2]) ∧ Below w.heap.size w w'))
    (eg3 : ∀ args w, (callFunc 54 args).run Tryd.prog w = .ok (.enter 54 args) w)
    (eg4 : ∀ args w, (callFunc 55 args).run Tryd.prog w = .ok (.enter 55 args) w)
    (m : Nat) (hm : m ≤ 1000000) (k : Tm) (ks : List Value) (w : World) (hK : k45.K w k ks) :
    Calls Tryd.prog 42 #[.agg ks.toArray, .int .i64 (m : Int)] w fun e w' => e = .returned (.bool (decide (sizeT k ≤ m))) ∧ Below w.heap.size w w' := by
  obtain ⟨A3, c3, A4, c4, A5, c5, rfl, l3, g3, l4, g4, l5, g5⟩ := k45_open hK
  have HK := Aside0.mk hK
  clear g3 g4 g5 l3 l4 l5 hK
  have hmf : ∀ (fn : Fn) (first cap : Array Value) (w : World), (Instr.makeFunc fn first cap).run Tryd.prog w = .ok (.func fn first cap) w := fun _ _ _ _ => rfl
  have hb3 : Below w.heap.size w (((w.alloc (.cells #[.int .i64 k.f0, .int .i64 k.f1, .string k.f2, .slice A3 k.f3.length c3, .slice A4 k.f4.length c4, .slice A5 k.f5.length c5] 45)).alloc (.cells #[.int .i64 (m : Int)] 3)).alloc (.cells #[.func (.func 54) #[] #[.pointer (some ⟨w.heap.size + 1, 0, none⟩), .pointer (some ⟨w.heap.size + 1 + 1, 0, none⟩)]] 105)) := (((Below.refl _ _).alloc (Nat.le_refl _) _).alloc (by simp) _).alloc (by simp; omega) _
  have hbm : (((w.alloc (.cells #[.int .i64 k.f0, .int .i64 k.f1, .string k.f2, .slice A3 k.f3.length c3, .slice A4 k.f4.length c4, .slice A5 k.f5.length c5] 45)).alloc (.cells #[.int .i64 (m : Int)] 3)).alloc (.cells #[.func (.func 54) #[] #[.pointer (some ⟨w.heap.size + 1, 0, none⟩), .pointer (some ⟨w.heap.size + 1 + 1, 0, none⟩)]] 105)).heap[w.heap.size + 1]? = some (.cells #[.int .i64 (m : Int)] 3 (0, 0)) := by
    have := blk_new (w.alloc (.cells #[.int .i64 k.f0, .int .i64 k.f1, .string k.f2, .slice A3 k.f3.length c3, .slice A4 k.f4.length c4, .slice A5 k.f5.length c5] 45)) (.cells #[.int .i64 (m : Int)] 3)
    rw [World.size_alloc] at this
    exact blk_alloc this _
  have hbc : (((w.alloc (.cells #[.int .i64 k.f0, .int .i64 k.f1, .string k.f2, .slice A3 k.f3.length c3, .slice A4 k.f4.length c4, .slice A5 k.f5.length c5] 45)).alloc (.cells #[.int .i64 (m : Int)] 3)).alloc (.cells #[.func (.func 54) #[] #[.pointer (some ⟨w.heap.size + 1, 0, none⟩), .pointer (some ⟨w.heap.size + 1 + 1, 0, none⟩)]] 105)).heap[w.heap.size + 1 + 1]? = some (.cells #[.func (.func 54) #[] #[.pointer (some ⟨w.heap.size + 1, 0, none⟩), .pointer (some ⟨w.heap.size + 1 + 1, 0, none⟩)]] 105 (0, 0)) := by
    have := blk_new ((w.alloc (.cells #[.int .i64 k.f0, .int .i64 k.f1, .string k.f2, .slice A3 k.f3.length c3, .slice A4 k.f4.length c4, .slice A5 k.f5.length c5] 45)).alloc (.cells #[.int .i64 (m : Int)] 3)) (.cells #[.func (.func 54) #[] #[.pointer (some ⟨w.heap.size + 1, 0, none⟩), .pointer (some ⟨w.heap.size + 1 + 1, 0, none⟩)]] 105)
    rw [World.size_alloc, World.size_alloc] at this
    exact this
  have hc := small_count HBinds eg3 eg4 w (w.heap.size + 1) (w.heap.size + 1 + 1) (by omega) (sizeT k) k m _ _ (Nat.le_refl _) hm HK.out ⟨hb3, hbm, hbc⟩
  clear hb3 hbm hbc
  go_enter Tryd.func42, Tryd.ntmps42
  go_wp2_with (go_at_fn 54; refine hc.mono ?_; rintro e w1 ⟨rfl, _, hb1, _⟩; have HB1 := Aside0.mk hb1; clear hb1 hc)
  go_ret
  exact ⟨rfl, HB1.out⟩
end Go.Proofs.YtahdjajdaggmjaaDoor.XPo
