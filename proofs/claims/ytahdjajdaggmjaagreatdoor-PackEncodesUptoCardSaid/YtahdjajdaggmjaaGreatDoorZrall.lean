/-
Walk: hypercuberef10.All.
-/
import Derived.Test.YtahdjajdaggmjaaGreatDoorUtab
import Derived.Test.YtahdjajdaggmjaaGreatDoorZall
set_option linter.unusedVariables false
set_option linter.unusedSimpArgs false
namespace Go.Proofs.YtahdjajdaggmjaaGreatDoor.XPa
open Go.RowKit Go.Proofs.YtahdjajdaggmjaaGreatDoorW.PrintWords Go.Proofs.YtahdjajdaggmjaaGreatDoorW.PrintLast Go.Proofs.YtahdjajdaggmjaaGreatDoorW.PrintMore
def upA (n k : Nat) : Array Bool := (List.replicate k true ++ List.replicate (n - k) false).toArray
section
variable {fr fa : List Cl → Bool} {wi : List Cl → Int → Bool} {nm : ByteArray → Bool}
structure AllOk (fr fa : List Cl → Bool) (wi : List Cl → Int → Bool) (nm : ByteArray → Bool) (t : Tm) (v d : Int) : Prop where
 dims : d ≤ 24
 kids : kidsI t.f0 = (t.f4.length : Int)
 parts : partsI t.f0 = 0 → t.f5.length = 0
 v1 : t.f0 = 1 → 0 ≤ t.f1 ∧ (v < 0 ∨ t.f1 < v)
 v0 : t.f0 ≠ 1 → t.f1 = 0
 n2 : t.f0 = 2 → nm t.f2 = true
 n0 : t.f0 ≠ 2 → t.f2.size = 0
 r1 : t.f0 = 13 ∨ t.f0 = 21 ∨ t.f0 = 26 → fr t.f3 = true
 r2 : t.f0 = 14 → fa t.f3 = true
 r0 : ¬ rowI t.f0 → t.f3.length = 0
 low : wi t.f3 d = true
 ks : allL fr fa wi nm t.f0 t.f4 0 v d = true
 bs : ∀ b ∈ t.f5, ownR fa wi t.f0 d b = true ∧ allBr fr fa wi nm t.f0 b v d = true
theorem allBs_iff (kind v d : Int) : ∀ l : List Br, allBs fr fa wi nm kind l v d = true ↔ ∀ b ∈ l, allBr fr fa wi nm kind b v d = true
 | [] => by rw [allBs]; simp
 | b :: r => by
  rw [allBs, Bool.and_eq_true, allBs_iff kind v d r]
  simp
theorem allBr_eq (kind v d : Int) (b : Br) : allBr fr fa wi nm kind b v d = allP fr fa wi nm b.f1 v (d + moreI kind) := by
 cases b
 rw [allBr]
theorem nil_of_len {α : Type} {l : List α} (h : l.length = 0) : l = [] := List.eq_nil_of_length_eq_zero h
theorem allT_iff (hwi : ∀ d, wi [] d = true) (t : Tm) (v d : Int) : allT fr fa wi nm t v d = true ↔ AllOk fr fa wi nm t v d := by
 rw [allT_eq, Bool.and_eq_true, Bool.and_eq_true, Bool.and_eq_true, decide_eq_true_eq, allBs_iff]
 have hpk : ∀ k : Int, k = 1 ∨ k = 2 ∨ rowI k → partsI k = 0 := by
  intro k hk
  have : k = 1 ∨ k = 2 ∨ k = 13 ∨ k = 21 ∨ k = 26 ∨ k = 14 := hk
  rcases this with e | e | e | e | e | e <;> subst e <;> rfl
 constructor
 ·rintro ⟨⟨hd, ho⟩, hk, hb⟩
  rw [ownB] at ho
  by_cases hbad : ownBad t
  ·rw [if_pos hbad] at ho
   exact absurd ho Bool.false_ne_true
  rw [if_neg hbad] at ho
  unfold ownBad at hbad
  have hkids : kidsI t.f0 = (t.f4.length : Int) := Decidable.byContradiction fun h => hbad (.inl h)
  have hv0 : t.f0 ≠ 1 → t.f1 = 0 := fun h => Decidable.byContradiction fun h2 => hbad (.inr (.inl ⟨h, h2⟩))
  have hn0 : t.f0 ≠ 2 → t.f2.size = 0 := fun h => Decidable.byContradiction fun h2 => hbad (.inr (.inr (.inl ⟨h, h2⟩)))
  have hp : partsI t.f0 = 0 → t.f5.length = 0 := fun h => Decidable.byContradiction fun h2 => hbad (.inr (.inr (.inr ⟨h, by omega⟩)))
  have hno : partsI t.f0 = 0 → ∀ b ∈ t.f5, ownR fa wi t.f0 d b = true ∧ allBr fr fa wi nm t.f0 b v d = true := fun h b hb' => by rw [nil_of_len (hp h)] at hb'; exact absurd hb' (by simp)
  by_cases k1 : t.f0 = 1
  ·rw [if_pos k1, Bool.and_eq_true, Bool.and_eq_true, decide_eq_true_eq, decide_eq_true_eq, Bool.or_eq_true, decide_eq_true_eq, decide_eq_true_eq] at ho
   exact ⟨hd, hkids, hp, fun _ => ⟨ho.1.2, ho.2⟩, hv0, fun h => by omega, hn0, fun h => by omega, fun h => by omega, fun _ => ho.1.1, by rw [nil_of_len ho.1.1]; exact hwi d, hk, hno (hpk _ (.inl k1))⟩
  rw [if_neg k1] at ho
  by_cases k2 : t.f0 = 2
  ·rw [if_pos k2, Bool.and_eq_true, decide_eq_true_eq] at ho
   exact ⟨hd, hkids, hp, fun h => by omega, hv0, fun _ => ho.2, hn0, fun h => by omega, fun h => by omega, fun _ => ho.1, by rw [nil_of_len ho.1]; exact hwi d, hk, hno (hpk _ (.inr (.inl k2)))⟩
  rw [if_neg k2] at ho
  by_cases k3 : t.f0 = 13 ∨ t.f0 = 21 ∨ t.f0 = 26
  ·rw [if_pos k3, Bool.and_eq_true] at ho
   have hr : rowI t.f0 := by unfold rowI; omega
   exact ⟨hd, hkids, hp, fun h => by omega, hv0, fun h => by omega, hn0, fun _ => ho.1, fun h => by omega, fun h => absurd hr h, ho.2, hk, hno (hpk _ (.inr (.inr hr)))⟩
  rw [if_neg k3] at ho
  by_cases k4 : t.f0 = 14
  ·rw [if_pos k4, Bool.and_eq_true] at ho
   have hr : rowI t.f0 := by unfold rowI; omega
   exact ⟨hd, hkids, hp, fun h => by omega, hv0, fun h => by omega, hn0, fun h => by omega, fun _ => ho.1, fun h => absurd hr h, ho.2, hk, hno (hpk _ (.inr (.inr hr)))⟩
  rw [if_neg k4, Bool.and_eq_true, List.all_eq_true, decide_eq_true_eq] at ho
  exact ⟨hd, hkids, hp, fun h => by omega, hv0, fun h => by omega, hn0, fun h => by omega, fun h => by omega, fun _ => ho.2, by rw [nil_of_len ho.2]; exact hwi d, hk, fun b hb' => ⟨ho.1 b hb', hb b hb'⟩⟩
 ·intro h
  refine ⟨⟨h.dims, ?_⟩, h.ks, fun b hb => (h.bs b hb).2⟩
  have hbad : ¬ ownBad t := by
   rintro (hb | ⟨hb, hb2⟩ | ⟨hb, hb2⟩ | ⟨hb, hb2⟩)
   ·exact hb h.kids
   ·exact hb2 (h.v0 hb)
   ·exact hb2 (h.n0 hb)
   ·have := h.parts hb
    omega
  rw [ownB, if_neg hbad]
  by_cases k1 : t.f0 = 1
  ·have hr : ¬ rowI t.f0 := by unfold rowI; omega
   rw [if_pos k1, Bool.and_eq_true, Bool.and_eq_true, decide_eq_true_eq, decide_eq_true_eq, Bool.or_eq_true, decide_eq_true_eq, decide_eq_true_eq]
   exact ⟨⟨h.r0 hr, (h.v1 k1).1⟩, (h.v1 k1).2⟩
  rw [if_neg k1]
  by_cases k2 : t.f0 = 2
  ·have hr : ¬ rowI t.f0 := by unfold rowI; omega
   rw [if_pos k2, Bool.and_eq_true, decide_eq_true_eq]
   exact ⟨h.r0 hr, h.n2 k2⟩
  rw [if_neg k2]
  by_cases k3 : t.f0 = 13 ∨ t.f0 = 21 ∨ t.f0 = 26
  ·rw [if_pos k3, Bool.and_eq_true]
   exact ⟨h.r1 k3, h.low⟩
  rw [if_neg k3]
  by_cases k4 : t.f0 = 14
  ·rw [if_pos k4, Bool.and_eq_true]
   exact ⟨h.r2 k4, h.low⟩
  have hr : ¬ rowI t.f0 := by unfold rowI; omega
  rw [if_neg k4, Bool.and_eq_true, List.all_eq_true, decide_eq_true_eq]
  exact ⟨fun b hb => (h.bs b hb).1, h.r0 hr⟩
structure RAllP (PF : List Cl → Prop) (PN : ByteArray → Prop) (fr fa : List Cl → Bool) (wi : List Cl → Int → Bool) (nm : ByteArray → Bool) : Prop where
 kids : ∀ (a : Int) (w : World), Calls Tryz.prog 63 #[.int .i64 a] w fun e w' => e = .returned (.int .i64 (kidsI a)) ∧ Below w.heap.size w w'
 parts : ∀ (a : Int) (w : World), Calls Tryz.prog 47 #[.int .i64 a] w fun e w' => e = .returned (.int .i64 (partsI a)) ∧ Below w.heap.size w w'
 more : ∀ (a : Int) (w : World), Calls Tryz.prog 69 #[.int .i64 a] w fun e w' => e = .returned (.int .i64 (moreI a)) ∧ Below w.heap.size w w'
 binds : ∀ (a i : Int) (w : World), Calls Tryz.prog 68 #[.int .i64 a, .int .i64 i] w fun e w' => e = .returned (.tuple #[.int .i64 (bindsI a i).1, .int .i64 (bindsI a i).2]) ∧ Below w.heap.size w w'
 fright : ∀ (A : Option Addr) (c : Nat) (l : List Cl) (w : World), Kd.C k113 w A l.length l → l.length ≤ c → PF l → Calls Tryz.prog 65 #[.slice A l.length c] w fun e w' => e = .returned (.bool (fr l)) ∧ Below w.heap.size w w'
 faright : ∀ (A : Option Addr) (c : Nat) (l : List Cl) (w : World), Kd.C k113 w A l.length l → l.length ≤ c → PF l → Calls Tryz.prog 66 #[.slice A l.length c] w fun e w' => e = .returned (.bool (fa l)) ∧ Below w.heap.size w w'
 low : ∀ (A : Option Addr) (c : Nat) (l : List Cl) (d : Int) (w : World), Kd.C k113 w A l.length l → l.length ≤ c → PF l → 0 ≤ d → d ≤ 1000 → Calls Tryz.prog 67 #[.slice A l.length c, .int .i64 d] w fun e w' => e = .returned (.bool (wi l d)) ∧ Below w.heap.size w w'
 name : ∀ (s : ByteArray) (w : World), PN s → Calls Tryz.prog 64 #[.string s] w fun e w' => e = .returned (.bool (nm s)) ∧ Below w.heap.size w w'
 nil : ∀ d, wi [] d = true
set_option maxHeartbeats 8000000 in
set_option maxRecDepth 100000 in
theorem ref10_All {PF : List Cl → Prop} {PN : ByteArray → Prop} (RP : RAllP PF PN fr fa wi nm) : ∀ (N : Nat) (t : Tm) (vars dims : Int) (cs : List Value) (w : World), sizeT t ≤ N → okS PF PN t → 0 ≤ vars → vars + N ≤ 1000000000 → 0 ≤ dims → dims ≤ 25 → k49.K w t cs →
  Calls Tryz.prog 44 #[.agg cs.toArray, .int .i64 vars, .int .i64 dims, .bool true] w fun e w' => e = .returned (.bool (allT fr fa wi nm t vars dims)) ∧ Below w.heap.size w w' := by
 intro N
 induction N with
 | zero => intro t vars dims cs w h; have := sizeT_pos t; omega
 | succ N ih =>
 intro t vars dims cs w hN ho h0 h1 h2 h3 hK
 have HIH := Aside0.mk ih
 have HO := Aside0.mk ho
 have HP := Aside0.mk RP
 have HNo : Aside0 (¬ AllOk fr fa wi nm t vars dims → allT fr fa wi nm t vars dims = false) := ⟨fun h => Bool.eq_false_iff.2 (fun h2 => h ((allT_iff RP.nil t vars dims).1 h2))⟩
 have HYes : Aside0 (AllOk fr fa wi nm t vars dims → allT fr fa wi nm t vars dims = true) := ⟨(allT_iff RP.nil t vars dims).2⟩
 obtain ⟨A3, c3, A4, c4, A5, c5, rfl, l3, g3, l4, g4, l5, g5⟩ := k49_open hK
 have HG3 := Aside0.mk g3
 have HL3 := Aside0.mk l3
 have HG4 := Aside0.mk g4
 have HG5 := Aside0.mk g5
 have hm4 : t.f4.length ≤ 9223372036854775807 := Kd.C_max g4
 have hm5 : t.f5.length ≤ 9223372036854775807 := Kd.C_max g5
 have HB0 := Aside0.mk (below_alloc (Below.refl w.heap.size w) (.cells #[.int .i64 t.f0, .int .i64 t.f1, .string t.f2, .slice A3 t.f3.length c3, .slice A4 t.f4.length c4, .slice A5 t.f5.length c5] 49))
 have HT0 := Aside0.mk (blk_new w (.cells #[.int .i64 t.f0, .int .i64 t.f1, .string t.f2, .slice A3 t.f3.length c3, .slice A4 t.f4.length c4, .slice A5 t.f5.length c5] 49))
 clear RP ih ho g3 g4 g5 l3 l4 l5 hK
 go_enter Tryz.func44, Tryz.ntmps44
 go_upto_region 1 with fail
 generalize hbt : w.heap.size = bt at *
 generalize hW0 : w.alloc (.cells #[.int .i64 t.f0, .int .i64 t.f1, .string t.f2, .slice A3 t.f3.length c3, .slice A4 t.f4.length c4, .slice A5 t.f5.length c5] 49) = W0 at *
 clear hW0
 rw [← hbt] at HB0
 go_cut [40] from 15 to 40 (fun v wx => ∃ bb : Bool, v = .bool bb ∧ Aside0 (bb = true → ¬ AllOk fr fa wi nm t vars dims) ∧ Aside0 (bb = false → kidsI t.f0 = (t.f4.length : Int) ∧ (partsI t.f0 = 0 → t.f5.length = 0) ∧ dims ≤ 24) ∧ Aside0 (Below w.heap.size w wx) ∧ Aside0 (wx.heap[bt]? = some (.cells #[.int .i64 t.f0, .int .i64 t.f1, .string t.f2, .slice A3 t.f3.length c3, .slice A4 t.f4.length c4, .slice A5 t.f5.length c5] 49 (0, 0))))
 case first =>
  have hz0 := (blk_cell HT0.out 0).trans (rfl : _ = some (Value.int .i64 t.f0))
  have hz4 := (blk_cell HT0.out 4).trans (rfl : _ = some (Value.slice A4 t.f4.length c4))
  have hz5 := (blk_cell HT0.out 5).trans (rfl : _ = some (Value.slice A5 t.f5.length c5))
  by_cases q1 : dims ≤ 24
  ·have b1 : decide (24 < dims) = false := decide_eq_false (by omega)
   by_cases q2 : kidsI t.f0 = (t.f4.length : Int)
   ·have b2 : (kidsI t.f0 != (t.f4.length : Int)) = false := by simp [q2]
    have HQ2 := Aside0.mk q2
    clear q2
    by_cases q3 : t.f5.length = 0
    ·have b3 : decide ((0 : Int) < (t.f5.length : Int)) = false := decide_eq_false (by omega)
     have b4 : decide (0 < t.f5.length) = false := decide_eq_false (by omega)
     have HQ3 := Aside0.mk q3
     clear q3
     refine start_ (n := 26) (S := fun w' => w'.cell? ⟨bt, 0, none⟩ = some (.int .i64 t.f0) ∧ w'.cell? ⟨bt, 4, none⟩ = some (.slice A4 t.f4.length c4) ∧ w'.cell? ⟨bt, 5, none⟩ = some (.slice A5 t.f5.length c5)) (ds := []) (upA 26 0) (by kernel_rfl) rfl (by kernel_rfl) ⟨hz0, hz4, hz5⟩ (fun hHeld => ?_)
     have HBD := Aside0.mk (below_drew HB0.out)
     have HTD : Aside0 (W0.drew.heap[bt]? = some (.cells #[.int .i64 t.f0, .int .i64 t.f1, .string t.f2, .slice A3 t.f3.length c3, .slice A4 t.f4.length c4, .slice A5 t.f5.length c5] 49 (0, 0))) := HT0
     clear hz0 hz4 hz5 HB0 HT0
     generalize W0.drew = W1 at *
     refine pu_ 0 15 ?_
     refine pu_ 1 16 ?_
     refine pu_ 2 17 ?_
     refine pu_ 3 18 ?_
     refine pu_ 4 19 ?_
     refine pu_ 5 20 ?_
     refine pu_ 6 21 ?_
     refine ta_ 7 22 ?_
     refine pu_ 9 24 ?_
     refine ta_ 10 25 ?_
     refine pu_ 11 26 ?_
     refine on_ 8 (some 23) fun K hK => ?_
     refine goes_ Tryz.func63 (by kernel_rfl) rfl #[.int .i64 t.f0] (by rfl) rfl rfl (by (try simp only [List.map_toArray, List.map_cons, List.map_nil]); first | done | rfl) ?_
     with_reducible refine (HP.out.kids t.f0 _).mono ?_
     rintro e w2 ⟨rfl, hb2⟩
     refine ⟨_, rfl, ?_⟩
     have HB2 := Aside0.mk (below_step HBD.out hb2)
     have HT2 := Aside0.mk (blk_below HTD.out hb2)
     have s0 := pw_cell_below hb2 hHeld.1
     have s1 := pw_cell_below hb2 hHeld.2.1
     have s2 := pw_cell_below hb2 hHeld.2.2
     clear hb2
     have hHeld_ := hHeld
     refine hK.out _ _ ⟨s0, s1, s2⟩ (fun hHeld => ?_)
     clear hK K hHeld_
     refine no_ 23 ?_
     refine pu_ 12 27 ?_
     refine pu_ 13 28 ?_
     refine pu_ 14 29 ?_
     refine pu_ 15 30 ?_
     refine ta_ 16 31 ?_
     refine pu_ 17 32 ?_
     refine pu_ 18 33 ?_
     refine pu_ 19 34 ?_
     refine po_ 20 35 ?_
     refine po_ 21 36 ?_
     refine po_ 22 37 ?_
     refine po_ 23 38 ?_
     refine pu_ 24 39 ?_
     refine pu_ 25 40 ?_
     refine done_ (by kernel_rfl) ?_
     go_wp2
     go_meet
     exact ⟨false, rfl, ⟨fun h => absurd h Bool.false_ne_true⟩, ⟨fun h => ⟨HQ2.out, fun _ => HQ3.out, q1⟩⟩, HB2, HT2⟩
    ·have b3 : decide ((0 : Int) < (t.f5.length : Int)) = true := decide_eq_true (by omega)
     have b4 : decide (0 < t.f5.length) = true := decide_eq_true (by omega)
     by_cases q4 : partsI t.f0 = 0
     ·have b5 : (partsI t.f0 == 0) = true := by simp [q4]
      have HQ4 : Aside0 (¬ AllOk fr fa wi nm t vars dims) := ⟨fun h => q3 (h.parts q4)⟩
      clear q3 q4
      refine start_ (n := 26) (S := fun w' => w'.cell? ⟨bt, 0, none⟩ = some (.int .i64 t.f0) ∧ w'.cell? ⟨bt, 4, none⟩ = some (.slice A4 t.f4.length c4) ∧ w'.cell? ⟨bt, 5, none⟩ = some (.slice A5 t.f5.length c5)) (ds := []) (upA 26 0) (by kernel_rfl) rfl (by kernel_rfl) ⟨hz0, hz4, hz5⟩ (fun hHeld => ?_)
      have HBD := Aside0.mk (below_drew HB0.out)
      have HTD : Aside0 (W0.drew.heap[bt]? = some (.cells #[.int .i64 t.f0, .int .i64 t.f1, .string t.f2, .slice A3 t.f3.length c3, .slice A4 t.f4.length c4, .slice A5 t.f5.length c5] 49 (0, 0))) := HT0
      clear hz0 hz4 hz5 HB0 HT0
      generalize W0.drew = W1 at *
      refine pu_ 0 15 ?_
      refine pu_ 1 16 ?_
      refine pu_ 2 17 ?_
      refine pu_ 3 18 ?_
      refine pu_ 4 19 ?_
      refine pu_ 5 20 ?_
      refine pu_ 6 21 ?_
      refine ta_ 7 22 ?_
      refine pu_ 9 24 ?_
      refine ta_ 10 25 ?_
      refine pu_ 11 26 ?_
      refine on_ 8 (some 23) fun K hK => ?_
      refine goes_ Tryz.func63 (by kernel_rfl) rfl #[.int .i64 t.f0] (by rfl) rfl rfl (by (try simp only [List.map_toArray, List.map_cons, List.map_nil]); first | done | rfl) ?_
      with_reducible refine (HP.out.kids t.f0 _).mono ?_
      rintro e w2 ⟨rfl, hb2⟩
      refine ⟨_, rfl, ?_⟩
      have HB2 := Aside0.mk (below_step HBD.out hb2)
      have HT2 := Aside0.mk (blk_below HTD.out hb2)
      have s0 := pw_cell_below hb2 hHeld.1
      have s1 := pw_cell_below hb2 hHeld.2.1
      have s2 := pw_cell_below hb2 hHeld.2.2
      clear hb2
      have hHeld_ := hHeld
      refine hK.out _ _ ⟨s0, s1, s2⟩ (fun hHeld => ?_)
      clear hK K hHeld_
      refine no_ 23 ?_
      refine pu_ 12 27 ?_
      refine pu_ 13 28 ?_
      refine pu_ 14 29 ?_
      refine pu_ 15 30 ?_
      refine ta_ 16 31 ?_
      refine pu_ 17 32 ?_
      refine pu_ 18 33 ?_
      refine pu_ 19 34 ?_
      refine pu_ 20 35 ?_
      refine ta_ 21 36 ?_
      refine on_ 22 (some 37) fun K hK => ?_
      refine goes_ Tryz.func47 (by kernel_rfl) rfl #[.int .i64 t.f0] (by rfl) rfl rfl (by (try simp only [List.map_toArray, List.map_cons, List.map_nil]); first | done | rfl) ?_
      with_reducible refine (HP.out.parts t.f0 _).mono ?_
      rintro e w3 ⟨rfl, hb3⟩
      refine ⟨_, rfl, ?_⟩
      have HB3 := Aside0.mk (below_step HB2.out hb3)
      have HT3 := Aside0.mk (blk_below HT2.out hb3)
      have s0 := pw_cell_below hb3 hHeld.1
      have s1 := pw_cell_below hb3 hHeld.2.1
      have s2 := pw_cell_below hb3 hHeld.2.2
      clear hb3
      have hHeld_ := hHeld
      refine hK.out _ _ ⟨s0, s1, s2⟩ (fun hHeld => ?_)
      clear hK K hHeld_
      refine no_ 37 ?_
      refine pu_ 23 38 ?_
      refine pu_ 24 39 ?_
      refine pu_ 25 40 ?_
      refine done_ (by kernel_rfl) ?_
      go_wp2
      go_meet
      exact ⟨true, rfl, ⟨fun h => HQ4.out⟩, ⟨fun h => absurd h.symm Bool.false_ne_true⟩, HB3, HT3⟩
     ·have b5 : (partsI t.f0 == 0) = false := by simp [q4]
      have HQ4 := Aside0.mk q4
      clear q3 q4
      refine start_ (n := 26) (S := fun w' => w'.cell? ⟨bt, 0, none⟩ = some (.int .i64 t.f0) ∧ w'.cell? ⟨bt, 4, none⟩ = some (.slice A4 t.f4.length c4) ∧ w'.cell? ⟨bt, 5, none⟩ = some (.slice A5 t.f5.length c5)) (ds := []) (upA 26 0) (by kernel_rfl) rfl (by kernel_rfl) ⟨hz0, hz4, hz5⟩ (fun hHeld => ?_)
      have HBD := Aside0.mk (below_drew HB0.out)
      have HTD : Aside0 (W0.drew.heap[bt]? = some (.cells #[.int .i64 t.f0, .int .i64 t.f1, .string t.f2, .slice A3 t.f3.length c3, .slice A4 t.f4.length c4, .slice A5 t.f5.length c5] 49 (0, 0))) := HT0
      clear hz0 hz4 hz5 HB0 HT0
      generalize W0.drew = W1 at *
      refine pu_ 0 15 ?_
      refine pu_ 1 16 ?_
      refine pu_ 2 17 ?_
      refine pu_ 3 18 ?_
      refine pu_ 4 19 ?_
      refine pu_ 5 20 ?_
      refine pu_ 6 21 ?_
      refine ta_ 7 22 ?_
      refine pu_ 9 24 ?_
      refine ta_ 10 25 ?_
      refine pu_ 11 26 ?_
      refine on_ 8 (some 23) fun K hK => ?_
      refine goes_ Tryz.func63 (by kernel_rfl) rfl #[.int .i64 t.f0] (by rfl) rfl rfl (by (try simp only [List.map_toArray, List.map_cons, List.map_nil]); first | done | rfl) ?_
      with_reducible refine (HP.out.kids t.f0 _).mono ?_
      rintro e w2 ⟨rfl, hb2⟩
      refine ⟨_, rfl, ?_⟩
      have HB2 := Aside0.mk (below_step HBD.out hb2)
      have HT2 := Aside0.mk (blk_below HTD.out hb2)
      have s0 := pw_cell_below hb2 hHeld.1
      have s1 := pw_cell_below hb2 hHeld.2.1
      have s2 := pw_cell_below hb2 hHeld.2.2
      clear hb2
      have hHeld_ := hHeld
      refine hK.out _ _ ⟨s0, s1, s2⟩ (fun hHeld => ?_)
      clear hK K hHeld_
      refine no_ 23 ?_
      refine pu_ 12 27 ?_
      refine pu_ 13 28 ?_
      refine pu_ 14 29 ?_
      refine pu_ 15 30 ?_
      refine ta_ 16 31 ?_
      refine pu_ 17 32 ?_
      refine pu_ 18 33 ?_
      refine pu_ 19 34 ?_
      refine pu_ 20 35 ?_
      refine ta_ 21 36 ?_
      refine on_ 22 (some 37) fun K hK => ?_
      refine goes_ Tryz.func47 (by kernel_rfl) rfl #[.int .i64 t.f0] (by rfl) rfl rfl (by (try simp only [List.map_toArray, List.map_cons, List.map_nil]); first | done | rfl) ?_
      with_reducible refine (HP.out.parts t.f0 _).mono ?_
      rintro e w3 ⟨rfl, hb3⟩
      refine ⟨_, rfl, ?_⟩
      have HB3 := Aside0.mk (below_step HB2.out hb3)
      have HT3 := Aside0.mk (blk_below HT2.out hb3)
      have s0 := pw_cell_below hb3 hHeld.1
      have s1 := pw_cell_below hb3 hHeld.2.1
      have s2 := pw_cell_below hb3 hHeld.2.2
      clear hb3
      have hHeld_ := hHeld
      refine hK.out _ _ ⟨s0, s1, s2⟩ (fun hHeld => ?_)
      clear hK K hHeld_
      refine no_ 37 ?_
      refine pu_ 23 38 ?_
      refine pu_ 24 39 ?_
      refine pu_ 25 40 ?_
      refine done_ (by kernel_rfl) ?_
      go_wp2
      go_meet
      exact ⟨false, rfl, ⟨fun h => absurd h Bool.false_ne_true⟩, ⟨fun h => ⟨HQ2.out, fun h => absurd h HQ4.out, q1⟩⟩, HB3, HT3⟩
   ·have b2 : (kidsI t.f0 != (t.f4.length : Int)) = true := by simp [q2]
    have HQ2 : Aside0 (¬ AllOk fr fa wi nm t vars dims) := ⟨fun h => q2 h.kids⟩
    clear q2
    refine start_ (n := 26) (S := fun w' => w'.cell? ⟨bt, 0, none⟩ = some (.int .i64 t.f0) ∧ w'.cell? ⟨bt, 4, none⟩ = some (.slice A4 t.f4.length c4) ∧ w'.cell? ⟨bt, 5, none⟩ = some (.slice A5 t.f5.length c5)) (ds := []) (upA 26 0) (by kernel_rfl) rfl (by kernel_rfl) ⟨hz0, hz4, hz5⟩ (fun hHeld => ?_)
    have HBD := Aside0.mk (below_drew HB0.out)
    have HTD : Aside0 (W0.drew.heap[bt]? = some (.cells #[.int .i64 t.f0, .int .i64 t.f1, .string t.f2, .slice A3 t.f3.length c3, .slice A4 t.f4.length c4, .slice A5 t.f5.length c5] 49 (0, 0))) := HT0
    clear hz0 hz4 hz5 HB0 HT0
    generalize W0.drew = W1 at *
    refine pu_ 0 15 ?_
    refine pu_ 1 16 ?_
    refine pu_ 2 17 ?_
    refine pu_ 3 18 ?_
    refine pu_ 4 19 ?_
    refine pu_ 5 20 ?_
    refine pu_ 6 21 ?_
    refine ta_ 7 22 ?_
    refine pu_ 9 24 ?_
    refine ta_ 10 25 ?_
    refine pu_ 11 26 ?_
    refine on_ 8 (some 23) fun K hK => ?_
    refine goes_ Tryz.func63 (by kernel_rfl) rfl #[.int .i64 t.f0] (by rfl) rfl rfl (by (try simp only [List.map_toArray, List.map_cons, List.map_nil]); first | done | rfl) ?_
    with_reducible refine (HP.out.kids t.f0 _).mono ?_
    rintro e w2 ⟨rfl, hb2⟩
    refine ⟨_, rfl, ?_⟩
    have HB2 := Aside0.mk (below_step HBD.out hb2)
    have HT2 := Aside0.mk (blk_below HTD.out hb2)
    have s0 := pw_cell_below hb2 hHeld.1
    have s1 := pw_cell_below hb2 hHeld.2.1
    have s2 := pw_cell_below hb2 hHeld.2.2
    clear hb2
    have hHeld_ := hHeld
    refine hK.out _ _ ⟨s0, s1, s2⟩ (fun hHeld => ?_)
    clear hK K hHeld_
    refine no_ 23 ?_
    refine pu_ 12 27 ?_
    refine pu_ 13 28 ?_
    refine pu_ 14 29 ?_
    refine po_ 15 30 ?_
    refine po_ 16 31 ?_
    refine po_ 17 32 ?_
    refine po_ 18 33 ?_
    refine po_ 19 34 ?_
    refine po_ 20 35 ?_
    refine po_ 21 36 ?_
    refine po_ 22 37 ?_
    refine po_ 23 38 ?_
    refine po_ 24 39 ?_
    refine pu_ 25 40 ?_
    refine done_ (by kernel_rfl) ?_
    go_wp2
    go_meet
    exact ⟨true, rfl, ⟨fun h => HQ2.out⟩, ⟨fun h => absurd h.symm Bool.false_ne_true⟩, HB2, HT2⟩
  ·have b1 : decide (24 < dims) = true := decide_eq_true (by omega)
   have HQ1 : Aside0 (¬ AllOk fr fa wi nm t vars dims) := ⟨fun h => q1 h.dims⟩
   clear q1
   refine start_ (n := 26) (S := fun w' => w'.cell? ⟨bt, 0, none⟩ = some (.int .i64 t.f0) ∧ w'.cell? ⟨bt, 4, none⟩ = some (.slice A4 t.f4.length c4) ∧ w'.cell? ⟨bt, 5, none⟩ = some (.slice A5 t.f5.length c5)) (ds := []) (upA 26 0) (by kernel_rfl) rfl (by kernel_rfl) ⟨hz0, hz4, hz5⟩ (fun hHeld => ?_)
   have HBD := Aside0.mk (below_drew HB0.out)
   have HTD : Aside0 (W0.drew.heap[bt]? = some (.cells #[.int .i64 t.f0, .int .i64 t.f1, .string t.f2, .slice A3 t.f3.length c3, .slice A4 t.f4.length c4, .slice A5 t.f5.length c5] 49 (0, 0))) := HT0
   clear hz0 hz4 hz5 HB0 HT0
   generalize W0.drew = W1 at *
   refine pu_ 0 15 ?_
   refine pu_ 1 16 ?_
   refine pu_ 2 17 ?_
   refine pu_ 3 18 ?_
   refine pu_ 4 19 ?_
   refine pu_ 5 20 ?_
   refine po_ 6 21 ?_
   refine po_ 7 22 ?_
   refine po_ 8 23 ?_
   refine po_ 9 24 ?_
   refine po_ 10 25 ?_
   refine po_ 11 26 ?_
   refine po_ 12 27 ?_
   refine pu_ 13 28 ?_
   refine pu_ 14 29 ?_
   refine po_ 15 30 ?_
   refine po_ 16 31 ?_
   refine po_ 17 32 ?_
   refine po_ 18 33 ?_
   refine po_ 19 34 ?_
   refine po_ 20 35 ?_
   refine po_ 21 36 ?_
   refine po_ 22 37 ?_
   refine po_ 23 38 ?_
   refine po_ 24 39 ?_
   refine pu_ 25 40 ?_
   refine done_ (by kernel_rfl) ?_
   go_wp2
   go_meet
   exact ⟨true, rfl, ⟨fun h => HQ1.out⟩, ⟨fun h => absurd h.symm Bool.false_ne_true⟩, HBD, HTD⟩
 case rest =>
  clear HB0 HT0
  obtain ⟨bb, rfl, HY, HN, HB, HT⟩ := hcut
  cases bb
  rotate_left
  ·have HQ : Aside0 (allT fr fa wi nm t vars dims = false) := ⟨HNo.out (HY.out rfl)⟩
   clear HY HN
   go_wp2
   go_ret
   exact ⟨by rw [HQ.out]; rfl, HB.out⟩
  ·obtain ⟨q1, q2, q3⟩ := HN.out rfl
   have HQ1 := Aside0.mk q1
   have HQ2 := Aside0.mk q2
   clear HY HN q1 q2
   have hz0 := (blk_cell HT.out 0).trans (rfl : _ = some (Value.int .i64 t.f0))
   have hz1 := (blk_cell HT.out 1).trans (rfl : _ = some (Value.int .i64 t.f1))
   have hv0 : decide (vars < 0) = false := decide_eq_false (by omega)
   have hv1 : decide ((0 : Int) ≤ vars) = true := decide_eq_true h0
   go_upto_if 43 with fail
   go_cut [] from 44 to 59 (fun wx => Aside0 ((t.f0 = 1 → 0 ≤ t.f1 ∧ (vars < 0 ∨ t.f1 < vars)) ∧ (t.f0 ≠ 1 → t.f1 = 0)) ∧ Aside0 (Below w.heap.size w wx) ∧ Aside0 (wx.heap[bt]? = some (.cells #[.int .i64 t.f0, .int .i64 t.f1, .string t.f2, .slice A3 t.f3.length c3, .slice A4 t.f4.length c4, .slice A5 t.f5.length c5] 49 (0, 0))))
   case first =>
    by_cases k1 : t.f0 = 1
    ·have b1 : (t.f0 == 1) = true := by simp [k1]
     by_cases k2 : 0 ≤ t.f1
     ·have b2 : decide (t.f1 < 0) = false := decide_eq_false (by omega)
      by_cases k3 : t.f1 < vars
      ·have b3 : decide (vars ≤ t.f1) = false := decide_eq_false (by omega)
       have HG : Aside0 ((t.f0 = 1 → 0 ≤ t.f1 ∧ (vars < 0 ∨ t.f1 < vars)) ∧ (t.f0 ≠ 1 → t.f1 = 0)) := ⟨fun _ => ⟨k2, .inr k3⟩, fun h => absurd k1 h⟩
       clear k1 k2 k3
       go_wp2
       go_meet
       exact ⟨HG, HB, HT⟩
      ·have b3 : decide (vars ≤ t.f1) = true := decide_eq_true (by omega)
       have HQ : Aside0 (allT fr fa wi nm t vars dims = false) := ⟨HNo.out fun h => by have := h.v1 k1; omega⟩
       clear k1 k2 k3
       go_wp2
       go_ret
       exact ⟨by rw [HQ.out]; rfl, HB.out⟩
     ·have b2 : decide (t.f1 < 0) = true := decide_eq_true (by omega)
      have HQ : Aside0 (allT fr fa wi nm t vars dims = false) := ⟨HNo.out fun h => by have := h.v1 k1; omega⟩
      clear k1 k2
      go_wp2
      go_ret
      exact ⟨by rw [HQ.out]; rfl, HB.out⟩
    ·have b1 : (t.f0 == 1) = false := by simp [k1]
     by_cases k2 : t.f1 = 0
     ·have b2 : (t.f1 != 0) = false := by simp [k2]
      have HG : Aside0 ((t.f0 = 1 → 0 ≤ t.f1 ∧ (vars < 0 ∨ t.f1 < vars)) ∧ (t.f0 ≠ 1 → t.f1 = 0)) := ⟨fun h => absurd h k1, fun _ => k2⟩
      clear k1 k2
      go_wp2
      go_meet
      exact ⟨HG, HB, HT⟩
     ·have b2 : (t.f1 != 0) = true := by simp [k2]
      have HQ : Aside0 (allT fr fa wi nm t vars dims = false) := ⟨HNo.out fun h => k2 (h.v0 k1)⟩
      clear k1 k2
      go_wp2
      go_ret
      exact ⟨by rw [HQ.out]; rfl, HB.out⟩
   case rest =>
    clear HB HT hz0 hz1
    obtain ⟨HG1, HB, HT⟩ := hcut
    have hz0 := (blk_cell HT.out 0).trans (rfl : _ = some (Value.int .i64 t.f0))
    have hz2 := (blk_cell HT.out 2).trans (rfl : _ = some (Value.string t.f2))
    have hcn := HP.out.name t.f2 wc (okS_N HO.out).2.1
    go_upto_region 8 with fail
    go_cut [78] from 60 to 78 (fun v wx => ∃ bb : Bool, v = .bool bb ∧ Aside0 (bb = true → ¬ AllOk fr fa wi nm t vars dims) ∧ Aside0 (bb = false → (t.f0 = 2 → nm t.f2 = true) ∧ (t.f0 ≠ 2 → t.f2.size = 0)) ∧ Aside0 (Below w.heap.size w wx) ∧ Aside0 (wx.heap[bt]? = some (.cells #[.int .i64 t.f0, .int .i64 t.f1, .string t.f2, .slice A3 t.f3.length c3, .slice A4 t.f4.length c4, .slice A5 t.f5.length c5] 49 (0, 0))))
    case first =>
     by_cases k2 : t.f0 = 2
     ·have b1 : (t.f0 == 2) = true := by simp [k2]
      have b2 : (t.f0 != 2) = false := by simp [k2]
      cases hn : nm t.f2
      ·have HG : Aside0 (¬ AllOk fr fa wi nm t vars dims) := ⟨fun h => by have := h.n2 k2; rw [hn] at this; exact absurd this Bool.false_ne_true⟩
       rw [hn] at hcn
       clear hn k2
       go_wp2_with (go_at_call 64; refine hcn.mono ?_; rintro e w2 ⟨rfl, hb2⟩; have HB2 := Aside0.mk (below_step HB.out hb2); have HT2 := Aside0.mk (blk_below HT.out hb2); clear hb2 hcn)
       go_meet
       exact ⟨true, rfl, ⟨fun _ => HG.out⟩, ⟨fun h => absurd h.symm Bool.false_ne_true⟩, HB2, HT2⟩
      ·have HG : Aside0 ((t.f0 = 2 → nm t.f2 = true) ∧ (t.f0 ≠ 2 → t.f2.size = 0)) := ⟨fun _ => hn, fun h => absurd k2 h⟩
       rw [hn] at hcn
       clear hn k2
       go_wp2_with (go_at_call 64; refine hcn.mono ?_; rintro e w2 ⟨rfl, hb2⟩; have HB2 := Aside0.mk (below_step HB.out hb2); have HT2 := Aside0.mk (blk_below HT.out hb2); have hz0 := (blk_cell HT2.out 0).trans (rfl : _ = some (Value.int .i64 t.f0)); clear hb2 hcn)
       go_meet
       exact ⟨false, rfl, ⟨fun h => absurd h Bool.false_ne_true⟩, ⟨fun _ => HG.out⟩, HB2, HT2⟩
     ·have b1 : (t.f0 == 2) = false := by simp [k2]
      have b2 : (t.f0 != 2) = true := by simp [k2]
      by_cases k3 : t.f2.size = 0
      ·have b3 := str_no k3
       have HG : Aside0 ((t.f0 = 2 → nm t.f2 = true) ∧ (t.f0 ≠ 2 → t.f2.size = 0)) := ⟨fun h => absurd h k2, fun _ => k3⟩
       clear k2 k3 hcn
       go_wp2
       go_meet
       exact ⟨false, rfl, ⟨fun h => absurd h Bool.false_ne_true⟩, ⟨fun _ => HG.out⟩, HB, HT⟩
      ·have b3 := str_yes k3
       have HG : Aside0 (¬ AllOk fr fa wi nm t vars dims) := ⟨fun h => k3 (h.n0 k2)⟩
       clear k2 k3 hcn
       go_wp2
       go_meet
       exact ⟨true, rfl, ⟨fun _ => HG.out⟩, ⟨fun h => absurd h.symm Bool.false_ne_true⟩, HB, HT⟩
    case rest =>
     clear HB HT hz0 hz2 hcn
     obtain ⟨bb, rfl, HY, HN, HB, HT⟩ := hcut
     cases bb
     rotate_left
     ·have HQ : Aside0 (allT fr fa wi nm t vars dims = false) := ⟨HNo.out (HY.out rfl)⟩
      clear HY HN
      go_wp2
      go_ret
      exact ⟨by rw [HQ.out]; rfl, HB.out⟩
     ·have HG2 := Aside0.mk (HN.out rfl)
      clear HY HN
      have hz0 := (blk_cell HT.out 0).trans (rfl : _ = some (Value.int .i64 t.f0))
      go_upto_block 0 with fail
      go_cut [] from 81 to 98 (fun wx => Aside0 ((t.f0 = 13 ∨ t.f0 = 21 ∨ t.f0 = 26 → fr t.f3 = true) ∧ (t.f0 = 14 → fa t.f3 = true) ∧ (¬ rowI t.f0 → t.f3.length = 0)) ∧ Aside0 (Below w.heap.size w wx) ∧ Aside0 (wx.heap[bt]? = some (.cells #[.int .i64 t.f0, .int .i64 t.f1, .string t.f2, .slice A3 t.f3.length c3, .slice A4 t.f4.length c4, .slice A5 t.f5.length c5] 49 (0, 0))))
      case first =>
       have hz3 := (blk_cell HT.out 3).trans (rfl : _ = some (Value.slice A3 t.f3.length c3))
       by_cases k3 : t.f0 = 13 ∨ t.f0 = 21 ∨ t.f0 = 26
       ·have hbs : (t.f0 == 13) = true ∨ (t.f0 == 13) = false ∧ (t.f0 == 21) = true ∨ (t.f0 == 13) = false ∧ (t.f0 == 21) = false ∧ (t.f0 == 26) = true := by
         rcases k3 with e | e | e <;> simp [e]
        have hc := HP.out.fright A3 c3 t.f3 wc (Kd.C_below HG3.out HB.out) HL3.out (okS_N HO.out).1
        cases hf : fr t.f3
        ·have HQ : Aside0 (allT fr fa wi nm t vars dims = false) := ⟨HNo.out fun h => by have := h.r1 k3; rw [hf] at this; exact absurd this Bool.false_ne_true⟩
         rw [hf] at hc
         clear hf k3
         rcases hbs with b3 | ⟨b3, b4⟩ | ⟨b3, b4, b5⟩
         all_goals
          go_wp2_with (go_at_call 65; refine hc.mono ?_; rintro e w2 ⟨rfl, hb2⟩; have HB2 := Aside0.mk (below_step HB.out hb2); clear hb2 hc)
          go_ret
          exact ⟨by rw [HQ.out]; rfl, HB2.out⟩
        ·have HG : Aside0 ((t.f0 = 13 ∨ t.f0 = 21 ∨ t.f0 = 26 → fr t.f3 = true) ∧ (t.f0 = 14 → fa t.f3 = true) ∧ (¬ rowI t.f0 → t.f3.length = 0)) := ⟨fun _ => hf, fun h => by omega, fun h => absurd (by unfold rowI; omega) h⟩
         rw [hf] at hc
         clear hf k3
         rcases hbs with b3 | ⟨b3, b4⟩ | ⟨b3, b4, b5⟩
         all_goals
          go_wp2_with (go_at_call 65; refine hc.mono ?_; rintro e w2 ⟨rfl, hb2⟩; have HB2 := Aside0.mk (below_step HB.out hb2); have HT2 := Aside0.mk (blk_below HT.out hb2); clear hb2 hc)
          go_meet
          exact ⟨HG, HB2, HT2⟩
       ·have b3 : (t.f0 == 13) = false := by simp; omega
        have b4 : (t.f0 == 21) = false := by simp; omega
        have b5 : (t.f0 == 26) = false := by simp; omega
        by_cases k4 : t.f0 = 14
        ·have b6 : (t.f0 == 14) = true := by simp [k4]
         have hc := HP.out.faright A3 c3 t.f3 wc (Kd.C_below HG3.out HB.out) HL3.out (okS_N HO.out).1
         cases hf : fa t.f3
         ·have HQ : Aside0 (allT fr fa wi nm t vars dims = false) := ⟨HNo.out fun h => by have := h.r2 k4; rw [hf] at this; exact absurd this Bool.false_ne_true⟩
          rw [hf] at hc
          clear hf k3 k4
          go_wp2_with (go_at_call 66; refine hc.mono ?_; rintro e w2 ⟨rfl, hb2⟩; have HB2 := Aside0.mk (below_step HB.out hb2); clear hb2 hc)
          go_ret
          exact ⟨by rw [HQ.out]; rfl, HB2.out⟩
         ·have HG : Aside0 ((t.f0 = 13 ∨ t.f0 = 21 ∨ t.f0 = 26 → fr t.f3 = true) ∧ (t.f0 = 14 → fa t.f3 = true) ∧ (¬ rowI t.f0 → t.f3.length = 0)) := ⟨fun h => by omega, fun _ => hf, fun h => absurd (by unfold rowI; omega) h⟩
          rw [hf] at hc
          clear hf k3 k4
          go_wp2_with (go_at_call 66; refine hc.mono ?_; rintro e w2 ⟨rfl, hb2⟩; have HB2 := Aside0.mk (below_step HB.out hb2); have HT2 := Aside0.mk (blk_below HT.out hb2); clear hb2 hc)
          go_meet
          exact ⟨HG, HB2, HT2⟩
        ·have b6 : (t.f0 == 14) = false := by simp [k4]
         by_cases r1 : t.f3.length = 0
         ·have HG : Aside0 ((t.f0 = 13 ∨ t.f0 = 21 ∨ t.f0 = 26 → fr t.f3 = true) ∧ (t.f0 = 14 → fa t.f3 = true) ∧ (¬ rowI t.f0 → t.f3.length = 0)) := ⟨fun h => absurd h k3, fun h => absurd h k4, fun _ => r1⟩
          have b7 : decide ((0 : Int) < (t.f3.length : Int)) = false := decide_eq_false (by omega)
          have b8 : decide (0 < t.f3.length) = false := decide_eq_false (by omega)
          clear k3 k4 r1
          go_wp2
          go_meet
          exact ⟨HG, HB, HT⟩
         ·have HQ : Aside0 (allT fr fa wi nm t vars dims = false) := ⟨HNo.out fun h => r1 (h.r0 (by unfold rowI; omega))⟩
          have b7 : decide ((0 : Int) < (t.f3.length : Int)) = true := decide_eq_true (by omega)
          have b8 : decide (0 < t.f3.length) = true := decide_eq_true (by omega)
          clear k3 k4 r1
          go_wp2
          go_ret
          exact ⟨by rw [HQ.out]; rfl, HB.out⟩
      case rest =>
       clear HB HT hz0
       obtain ⟨HG3x, HB, HT⟩ := hcut
       have hz3 := (blk_cell HT.out 3).trans (rfl : _ = some (Value.slice A3 t.f3.length c3))
       have hc := HP.out.low A3 c3 t.f3 dims wc (Kd.C_below HG3.out HB.out) HL3.out (okS_N HO.out).1 h2 (by omega)
       cases hlo : wi t.f3 dims
       ·have HQ : Aside0 (allT fr fa wi nm t vars dims = false) := ⟨HNo.out fun h => by have := h.low; rw [hlo] at this; exact absurd this Bool.false_ne_true⟩
        rw [hlo] at hc
        clear hlo
        go_wp2_with (go_at_call 67; refine hc.mono ?_; rintro e w2 ⟨rfl, hb2⟩; have HB2 := Aside0.mk (below_step HB.out hb2); clear hb2 hc)
        go_ret
        exact ⟨by rw [HQ.out]; rfl, HB2.out⟩
       ·have HLO := Aside0.mk hlo
        rw [hlo] at hc
        clear hlo
        go_wp2_with (go_at_call 67; refine hc.mono ?_; rintro e w2 ⟨rfl, hb2⟩; have HB2 := Aside0.mk (below_step HB.out hb2); have HT2 := Aside0.mk (blk_below HT.out hb2); clear hb2 hc)
        clear HB HT hz3
        go_loopg [9] (t.f4.length + 1) (fun kq v9 wx => ∃ j : Nat, v9 = .int .i64 (j : Int) ∧ j ≤ t.f4.length ∧ kq + j = t.f4.length + 1 ∧ Aside0 (allL fr fa wi nm t.f0 t.f4 0 vars dims = allL fr fa wi nm t.f0 (t.f4.drop j) j vars dims) ∧ Aside0 (Below w.heap.size w wx) ∧ Aside0 (wx.heap[bt]? = some (.cells #[.int .i64 t.f0, .int .i64 t.f1, .string t.f2, .slice A3 t.f3.length c3, .slice A4 t.f4.length c4, .slice A5 t.f5.length c5] 49 (0, 0))))
        case atStart => exact ⟨0, rfl, Nat.zero_le _, rfl, ⟨rfl⟩, HB2, HT2⟩
        case round =>
         clear HB2 HT2
         obtain ⟨j, rfl, hj, hk, HE, HB, HT⟩ := hrel
         have hz4 := (blk_cell HT.out 4).trans (rfl : _ = some (Value.slice A4 t.f4.length c4))
         by_cases hlt : j < t.f4.length
         ·have hd : decide ((j : Int) < (t.f4.length : Int)) = true := decide_eq_true (by omega)
          obtain ⟨ad, A3k, c3k, A4k, c4k, A5k, c5k, e, g0, g1, g2, g3, g4, g5, hKk⟩ := at_tm HG4.out j hlt
          cases e
          have hmem : t.f4[j] ∈ t.f4 := List.getElem_mem _
          have hdr := List.drop_eq_getElem_cons hlt
          obtain ⟨k, hkk⟩ : ∃ k, t.f4[j] = k := ⟨_, rfl⟩
          rw [hkk] at g0 g1 g2 g3 g4 g5 hKk hmem hdr
          have hE := HE.out
          rw [hdr, allL] at hE
          have hcb := HP.out.binds t.f0 (j : Int) wr
          have HVD := Aside0.mk (bindsI_01 t.f0 (j : Int))
          obtain ⟨v, hv⟩ : ∃ v, (bindsI t.f0 (j : Int)).1 = v := ⟨_, rfl⟩
          obtain ⟨d, hd2⟩ : ∃ d, (bindsI t.f0 (j : Int)).2 = d := ⟨_, rfl⟩
          rw [hv, hd2] at hE hcb HVD
          have HEE := Aside0.mk hE
          have HKK := Aside0.mk hKk
          have HS1 := Aside0.mk (sizeT_kid hmem)
          have HS2 := Aside0.mk (okSL_mem (okS_eq HO.out).2.2.1 hmem)
          have HX : Aside0 (∀ w2, Below w.heap.size w w2 → w2.cell? (ad.add (j * 6)) = some (.int .i64 k.f0) ∧ w2.cell? ⟨(ad.add (j * 6)).block, (ad.add (j * 6)).off + 1, none⟩ = some (.int .i64 k.f1) ∧ w2.cell? ⟨(ad.add (j * 6)).block, (ad.add (j * 6)).off + 2, none⟩ = some (.string k.f2) ∧ w2.cell? ⟨(ad.add (j * 6)).block, (ad.add (j * 6)).off + 3, none⟩ = some (.slice A3k k.f3.length c3k) ∧ w2.cell? ⟨(ad.add (j * 6)).block, (ad.add (j * 6)).off + 4, none⟩ = some (.slice A4k k.f4.length c4k) ∧ w2.cell? ⟨(ad.add (j * 6)).block, (ad.add (j * 6)).off + 5, none⟩ = some (.slice A5k k.f5.length c5k)) := ⟨fun w2 h => ⟨pw_cell_below h g0, pw_cell_below h g1, pw_cell_below h g2, pw_cell_below h g3, pw_cell_below h g4, pw_cell_below h g5⟩⟩
          have hz0 := (blk_cell HT.out 0).trans (rfl : _ = some (Value.int .i64 t.f0))
          obtain ⟨v0, v1, d0, d1⟩ := HVD.out
          clear hE HE hv hd2 hdr hkk hmem hKk g0 g1 g2 g3 g4 g5
          cases ha : allT fr fa wi nm k (vars + v) (dims + d)
          ·have HQ : Aside0 (allT fr fa wi nm t vars dims = false) := ⟨HNo.out fun h => by have := h.ks; rw [HEE.out, ha] at this; exact absurd this Bool.false_ne_true⟩
           have HAA := Aside0.mk ha
           clear ha
           go_wp2_with (first
            | (go_at_call 68; refine hcb.mono ?_; rintro e w3 ⟨rfl, hb3⟩; have HB3 := Aside0.mk (below_step HB.out hb3); have HT3 := Aside0.mk (blk_below HT.out hb3); have hz4b := (blk_cell HT3.out 4).trans (rfl : _ = some (Value.slice (some ad) t.f4.length c4)); obtain ⟨g0, g1, g2, g3, g4, g5⟩ := HX.out w3 HB3.out; have hca := HIH.out k (vars + v) (dims + d) _ w3 (by have := HS1.out; omega) HS2.out (by omega) (by omega) (by omega) (by omega) (k49.K_below HB3.out HKK.out); rw [HAA.out] at hca; clear hcb hb3)
            | (go_at_call 44; refine hca.mono ?_; rintro e w4 ⟨rfl, hb4⟩; have HB4 := Aside0.mk (below_step HB3.out hb4); clear hb4 hca))
           go_ret
           exact ⟨by rw [HQ.out]; rfl, HB4.out⟩
          ·have HE2 : Aside0 (allL fr fa wi nm t.f0 t.f4 0 vars dims = allL fr fa wi nm t.f0 (t.f4.drop (j + 1)) (j + 1) vars dims) := ⟨by rw [HEE.out, ha, Bool.true_and]⟩
           have HAA := Aside0.mk ha
           clear ha
           go_wp2_with (first
            | (go_at_call 68; refine hcb.mono ?_; rintro e w3 ⟨rfl, hb3⟩; have HB3 := Aside0.mk (below_step HB.out hb3); have HT3 := Aside0.mk (blk_below HT.out hb3); have hz4b := (blk_cell HT3.out 4).trans (rfl : _ = some (Value.slice (some ad) t.f4.length c4)); obtain ⟨g0, g1, g2, g3, g4, g5⟩ := HX.out w3 HB3.out; have hca := HIH.out k (vars + v) (dims + d) _ w3 (by have := HS1.out; omega) HS2.out (by omega) (by omega) (by omega) (by omega) (k49.K_below HB3.out HKK.out); rw [HAA.out] at hca; clear hcb hb3)
            | (go_at_call 44; refine hca.mono ?_; rintro e w4 ⟨rfl, hb4⟩; have HB4 := Aside0.mk (below_step HB3.out hb4); have HT4 := Aside0.mk (blk_below HT3.out hb4); clear hb4 hca))
           go_roundg (gk - 1)
           case measure => omega
           case rel => exact ⟨j + 1, rfl, by omega, by omega, HE2, HB4, HT4⟩
         ·have hd : decide ((j : Int) < (t.f4.length : Int)) = false := decide_eq_false (by omega)
          have HKS : Aside0 (allL fr fa wi nm t.f0 t.f4 0 vars dims = true) := ⟨by rw [HE.out, List.drop_eq_nil_of_le (by omega), allL]⟩
          clear HE
          have hz5 := (blk_cell HT.out 5).trans (rfl : _ = some (Value.slice A5 t.f5.length c5))
          go_wp2
          obtain ⟨go, rfl⟩ : ∃ go, go = gk := ⟨_, rfl⟩
          obtain ⟨wo, rfl⟩ : ∃ wo : World, wo = wr := ⟨_, rfl⟩
          go_loopg [12] (t.f5.length + 1) (fun kq v12 wx => ∃ i : Nat, v12 = .int .i64 (i : Int) ∧ i ≤ t.f5.length ∧ kq + i = t.f5.length + 1 ∧ Aside0 (∀ b ∈ t.f5.take i, ownR fa wi t.f0 dims b = true ∧ allBr fr fa wi nm t.f0 b vars dims = true) ∧ Aside0 (Below w.heap.size w wx) ∧ Aside0 (wx.heap[bt]? = some (.cells #[.int .i64 t.f0, .int .i64 t.f1, .string t.f2, .slice A3 t.f3.length c3, .slice A4 t.f4.length c4, .slice A5 t.f5.length c5] 49 (0, 0))))
          case atStart => exact ⟨0, rfl, Nat.zero_le _, rfl, ⟨fun b hb => absurd hb (by simp)⟩, HB, HT⟩
          case round =>
           clear HB HT hz5 hz4
           obtain ⟨i, rfl, hi, hki, HA, HB, HT⟩ := hrel
           have hz5 := (blk_cell HT.out 5).trans (rfl : _ = some (Value.slice A5 t.f5.length c5))
           by_cases hli : i < t.f5.length
           ·have hdi : decide ((i : Int) < (t.f5.length : Int)) = true := decide_eq_true (by omega)
            obtain ⟨ad, A0b, c0b, A1b, c1b, e, g0, g1, l0, q0, l1, q1⟩ := at_br HG5.out i hli
            cases e
            have hmb : t.f5[i] ∈ t.f5 := List.getElem_mem _
            obtain ⟨b, hbb⟩ : ∃ b, t.f5[i] = b := ⟨_, rfl⟩
            have HTK : Aside0 (∀ c ∈ t.f5.take (i + 1), c ∈ t.f5.take i ∨ c = b) := ⟨fun c hc => by rw [List.take_succ_eq_append_getElem hli, hbb] at hc; simpa using hc⟩
            rw [hbb] at g0 g1 l0 q0 l1 q1 hmb
            replace g0 := pw_cell_below HB.out g0
            replace g1 := pw_cell_below HB.out g1
            have hmk1 : b.f1.length ≤ 9223372036854775807 := Kd.C_max q1
            have HMB := Aside0.mk hmb
            have HOB := Aside0.mk (okSR_eq (okSB_mem (okS_eq HO.out).2.2.2 hmb))
            have HG0 := Aside0.mk q0
            have HL0 := Aside0.mk l0
            have HG1 := Aside0.mk q1
            clear hmb hbb q0 q1 l0 l1
            have HBA := Aside0.mk (HB.out.alloc HB.out.size (.cells #[.slice A0b b.f0.length c0b, .slice A1b b.f1.length c1b] 90))
            have HTA := Aside0.mk (blk_alloc HT.out (.cells #[.slice A0b b.f0.length c0b, .slice A1b b.f1.length c1b] 90))
            have HNA := Aside0.mk (blk_new wr (.cells #[.slice A0b b.f0.length c0b, .slice A1b b.f1.length c1b] 90))
            go_upto_region 35 with fail
            generalize hbr : wr.heap.size = bb at *
            generalize hWA : wr.alloc (.cells #[.slice A0b b.f0.length c0b, .slice A1b b.f1.length c1b] 90) = WA at *
            clear hWA hbr g0 g1 HB HT hz5
            go_cut [165] from 146 to 165 (fun v wx => ∃ bb2 : Bool, v = .bool bb2 ∧ Aside0 (bb2 = true → ¬ AllOk fr fa wi nm t vars dims) ∧ Aside0 (bb2 = false → ownR fa wi t.f0 dims b = true) ∧ Aside0 (wx.heap[bb]? = some (.cells #[.slice A0b b.f0.length c0b, .slice A1b b.f1.length c1b] 90 (0, 0))) ∧ Aside0 (Below w.heap.size w wx) ∧ Aside0 (wx.heap[bt]? = some (.cells #[.int .i64 t.f0, .int .i64 t.f1, .string t.f2, .slice A3 t.f3.length c3, .slice A4 t.f4.length c4, .slice (some ad) t.f5.length c5] 49 (0, 0))))
            case first =>
             have hn0 := (blk_cell HNA.out 0).trans (rfl : _ = some (Value.slice A0b b.f0.length c0b))
             have hn1 := (blk_cell HNA.out 1).trans (rfl : _ = some (Value.slice A1b b.f1.length c1b))
             have hz0 := (blk_cell HTA.out 0).trans (rfl : _ = some (Value.int .i64 t.f0))
             have hcf := fun w1 h => HP.out.faright A0b c0b b.f0 w1 (Kd.C_below HG0.out h) HL0.out HOB.out.1
             have hcl := fun w1 h => HP.out.low A0b c0b b.f0 dims w1 (Kd.C_below HG0.out h) HL0.out HOB.out.1 h2 (by omega)
             have HCF := Aside0.mk hcf
             have HCL := Aside0.mk hcl
             clear hcf hcl
             by_cases q1 : (b.f1.length : Int) = partsI t.f0
             ·have b1 : ((b.f1.length : Int) != partsI t.f0) = false := by simp [q1]
              cases hf : fa b.f0
              ·have HNOK : Aside0 (¬ AllOk fr fa wi nm t vars dims) := ⟨fun h => by have := (h.bs b HMB.out).1; rw [ownR, hf, Bool.and_false] at this; exact absurd this Bool.false_ne_true⟩
               have hcf := HCF.out
               rw [hf] at hcf
               clear hf q1
               refine start_ (n := 20) (S := fun w' => w'.cell? ⟨bb, 0, none⟩ = some (.slice A0b b.f0.length c0b) ∧ w'.cell? ⟨bb, 1, none⟩ = some (.slice A1b b.f1.length c1b) ∧ w'.cell? ⟨bt, 0, none⟩ = some (.int .i64 t.f0)) (ds := []) (upA 20 0) (by kernel_rfl) rfl (by kernel_rfl) ⟨hn0, hn1, hz0⟩ (fun hHeld => ?_)
               have HB1 := Aside0.mk (below_drew HBA.out)
               have HT1 := Aside0.mk (blk_drew HTA.out)
               have HN1 := Aside0.mk (blk_drew HNA.out)
               clear hn0 hn1 hz0 HBA HTA HNA
               generalize WA.drew = W1 at *
               refine pu_ 0 146 ?_
               refine ta_ 1 147 ?_
               refine pu_ 2 148 ?_
               refine pu_ 3 149 ?_
               refine ta_ 4 150 ?_
               refine on_ 5 (some 151) fun K hK => ?_
               refine goes_ Tryz.func47 (by kernel_rfl) rfl #[.int .i64 t.f0] (by rfl) rfl rfl (by (try simp only [List.map_toArray, List.map_cons, List.map_nil]); first | done | rfl) ?_
               with_reducible refine (HP.out.parts t.f0 _).mono ?_
               rintro e w2 ⟨rfl, hb2⟩
               refine ⟨_, rfl, ?_⟩
               have HB2 := Aside0.mk (below_step HB1.out hb2)
               have HT2 := Aside0.mk (blk_below HT1.out hb2)
               have HN2 := Aside0.mk (blk_below HN1.out hb2)
               have s0 := pw_cell_below hb2 hHeld.1
               have s1 := pw_cell_below hb2 hHeld.2.1
               have s2 := pw_cell_below hb2 hHeld.2.2
               clear hb2
               have hHeld_ := hHeld
               refine hK.out _ _ ⟨s0, s1, s2⟩ (fun hHeld => ?_)
               clear hK K hHeld_
               refine no_ 151 ?_
               refine pu_ 6 152 ?_
               refine pu_ 7 153 ?_
               refine pu_ 8 154 ?_
               refine ta_ 9 155 ?_
               refine on_ 10 (some 156) fun K hK => ?_
               refine goes_ Tryz.func66 (by kernel_rfl) rfl #[.slice A0b b.f0.length c0b] (by rfl) rfl rfl (by (try simp only [List.map_toArray, List.map_cons, List.map_nil]); first | done | rfl) ?_
               with_reducible refine (hcf _ HB2.out).mono ?_
               rintro e w3 ⟨rfl, hb3⟩
               refine ⟨_, rfl, ?_⟩
               have HB3 := Aside0.mk (below_step HB2.out hb3)
               have HT3 := Aside0.mk (blk_below HT2.out hb3)
               have HN3 := Aside0.mk (blk_below HN2.out hb3)
               have s0 := pw_cell_below hb3 hHeld.1
               have s1 := pw_cell_below hb3 hHeld.2.1
               have s2 := pw_cell_below hb3 hHeld.2.2
               clear hb3
               have hHeld_ := hHeld
               refine hK.out _ _ ⟨s0, s1, s2⟩ (fun hHeld => ?_)
               clear hK K hHeld_
               refine no_ 156 ?_
               refine pu_ 11 157 ?_
               refine pu_ 12 158 ?_
               refine pu_ 13 159 ?_
               refine po_ 14 160 ?_
               refine po_ 15 161 ?_
               refine po_ 16 162 ?_
               refine po_ 17 163 ?_
               refine po_ 18 164 ?_
               refine pu_ 19 165 ?_
               refine done_ (by kernel_rfl) ?_
               go_wp2
               go_meet
               exact ⟨true, rfl, ⟨fun h => HNOK.out⟩, ⟨fun h => absurd h.symm Bool.false_ne_true⟩, HN3, HB3, HT3⟩
              ·cases hw : wi b.f0 dims
               ·have HNOK : Aside0 (¬ AllOk fr fa wi nm t vars dims) := ⟨fun h => by have := (h.bs b HMB.out).1; rw [ownR, hw, Bool.and_false] at this; exact absurd this Bool.false_ne_true⟩
                have hcf := HCF.out
                have hcl := HCL.out
                rw [hf] at hcf
                rw [hw] at hcl
                clear hf q1 hw
                refine start_ (n := 20) (S := fun w' => w'.cell? ⟨bb, 0, none⟩ = some (.slice A0b b.f0.length c0b) ∧ w'.cell? ⟨bb, 1, none⟩ = some (.slice A1b b.f1.length c1b) ∧ w'.cell? ⟨bt, 0, none⟩ = some (.int .i64 t.f0)) (ds := []) (upA 20 0) (by kernel_rfl) rfl (by kernel_rfl) ⟨hn0, hn1, hz0⟩ (fun hHeld => ?_)
                have HB1 := Aside0.mk (below_drew HBA.out)
                have HT1 := Aside0.mk (blk_drew HTA.out)
                have HN1 := Aside0.mk (blk_drew HNA.out)
                clear hn0 hn1 hz0 HBA HTA HNA
                generalize WA.drew = W1 at *
                refine pu_ 0 146 ?_
                refine ta_ 1 147 ?_
                refine pu_ 2 148 ?_
                refine pu_ 3 149 ?_
                refine ta_ 4 150 ?_
                refine on_ 5 (some 151) fun K hK => ?_
                refine goes_ Tryz.func47 (by kernel_rfl) rfl #[.int .i64 t.f0] (by rfl) rfl rfl (by (try simp only [List.map_toArray, List.map_cons, List.map_nil]); first | done | rfl) ?_
                with_reducible refine (HP.out.parts t.f0 _).mono ?_
                rintro e w2 ⟨rfl, hb2⟩
                refine ⟨_, rfl, ?_⟩
                have HB2 := Aside0.mk (below_step HB1.out hb2)
                have HT2 := Aside0.mk (blk_below HT1.out hb2)
                have HN2 := Aside0.mk (blk_below HN1.out hb2)
                have s0 := pw_cell_below hb2 hHeld.1
                have s1 := pw_cell_below hb2 hHeld.2.1
                have s2 := pw_cell_below hb2 hHeld.2.2
                clear hb2
                have hHeld_ := hHeld
                refine hK.out _ _ ⟨s0, s1, s2⟩ (fun hHeld => ?_)
                clear hK K hHeld_
                refine no_ 151 ?_
                refine pu_ 6 152 ?_
                refine pu_ 7 153 ?_
                refine pu_ 8 154 ?_
                refine ta_ 9 155 ?_
                refine on_ 10 (some 156) fun K hK => ?_
                refine goes_ Tryz.func66 (by kernel_rfl) rfl #[.slice A0b b.f0.length c0b] (by rfl) rfl rfl (by (try simp only [List.map_toArray, List.map_cons, List.map_nil]); first | done | rfl) ?_
                with_reducible refine (hcf _ HB2.out).mono ?_
                rintro e w3 ⟨rfl, hb3⟩
                refine ⟨_, rfl, ?_⟩
                have HB3 := Aside0.mk (below_step HB2.out hb3)
                have HT3 := Aside0.mk (blk_below HT2.out hb3)
                have HN3 := Aside0.mk (blk_below HN2.out hb3)
                have s0 := pw_cell_below hb3 hHeld.1
                have s1 := pw_cell_below hb3 hHeld.2.1
                have s2 := pw_cell_below hb3 hHeld.2.2
                clear hb3
                have hHeld_ := hHeld
                refine hK.out _ _ ⟨s0, s1, s2⟩ (fun hHeld => ?_)
                clear hK K hHeld_
                refine no_ 156 ?_
                refine pu_ 11 157 ?_
                refine pu_ 12 158 ?_
                refine pu_ 13 159 ?_
                refine pu_ 14 160 ?_
                refine ta_ 15 161 ?_
                refine pu_ 16 162 ?_
                refine on_ 17 (some 163) fun K hK => ?_
                refine goes_ Tryz.func67 (by kernel_rfl) rfl #[.slice A0b b.f0.length c0b, .int .i64 dims] (by rfl) rfl rfl (by (try simp only [List.map_toArray, List.map_cons, List.map_nil]); first | done | rfl) ?_
                with_reducible refine (hcl _ HB3.out).mono ?_
                rintro e w4 ⟨rfl, hb4⟩
                refine ⟨_, rfl, ?_⟩
                have HB4 := Aside0.mk (below_step HB3.out hb4)
                have HT4 := Aside0.mk (blk_below HT3.out hb4)
                have HN4 := Aside0.mk (blk_below HN3.out hb4)
                have s0 := pw_cell_below hb4 hHeld.1
                have s1 := pw_cell_below hb4 hHeld.2.1
                have s2 := pw_cell_below hb4 hHeld.2.2
                clear hb4
                have hHeld_ := hHeld
                refine hK.out _ _ ⟨s0, s1, s2⟩ (fun hHeld => ?_)
                clear hK K hHeld_
                refine no_ 163 ?_
                refine pu_ 18 164 ?_
                refine pu_ 19 165 ?_
                refine done_ (by kernel_rfl) ?_
                go_wp2
                go_meet
                exact ⟨true, rfl, ⟨fun h => HNOK.out⟩, ⟨fun h => absurd h.symm Bool.false_ne_true⟩, HN4, HB4, HT4⟩
               ·have HOK : Aside0 (ownR fa wi t.f0 dims b = true) := ⟨by rw [ownR, decide_eq_true q1, hf, hw]; rfl⟩
                have hcf := HCF.out
                have hcl := HCL.out
                rw [hf] at hcf
                rw [hw] at hcl
                clear hf q1 hw
                refine start_ (n := 20) (S := fun w' => w'.cell? ⟨bb, 0, none⟩ = some (.slice A0b b.f0.length c0b) ∧ w'.cell? ⟨bb, 1, none⟩ = some (.slice A1b b.f1.length c1b) ∧ w'.cell? ⟨bt, 0, none⟩ = some (.int .i64 t.f0)) (ds := []) (upA 20 0) (by kernel_rfl) rfl (by kernel_rfl) ⟨hn0, hn1, hz0⟩ (fun hHeld => ?_)
                have HB1 := Aside0.mk (below_drew HBA.out)
                have HT1 := Aside0.mk (blk_drew HTA.out)
                have HN1 := Aside0.mk (blk_drew HNA.out)
                clear hn0 hn1 hz0 HBA HTA HNA
                generalize WA.drew = W1 at *
                refine pu_ 0 146 ?_
                refine ta_ 1 147 ?_
                refine pu_ 2 148 ?_
                refine pu_ 3 149 ?_
                refine ta_ 4 150 ?_
                refine on_ 5 (some 151) fun K hK => ?_
                refine goes_ Tryz.func47 (by kernel_rfl) rfl #[.int .i64 t.f0] (by rfl) rfl rfl (by (try simp only [List.map_toArray, List.map_cons, List.map_nil]); first | done | rfl) ?_
                with_reducible refine (HP.out.parts t.f0 _).mono ?_
                rintro e w2 ⟨rfl, hb2⟩
                refine ⟨_, rfl, ?_⟩
                have HB2 := Aside0.mk (below_step HB1.out hb2)
                have HT2 := Aside0.mk (blk_below HT1.out hb2)
                have HN2 := Aside0.mk (blk_below HN1.out hb2)
                have s0 := pw_cell_below hb2 hHeld.1
                have s1 := pw_cell_below hb2 hHeld.2.1
                have s2 := pw_cell_below hb2 hHeld.2.2
                clear hb2
                have hHeld_ := hHeld
                refine hK.out _ _ ⟨s0, s1, s2⟩ (fun hHeld => ?_)
                clear hK K hHeld_
                refine no_ 151 ?_
                refine pu_ 6 152 ?_
                refine pu_ 7 153 ?_
                refine pu_ 8 154 ?_
                refine ta_ 9 155 ?_
                refine on_ 10 (some 156) fun K hK => ?_
                refine goes_ Tryz.func66 (by kernel_rfl) rfl #[.slice A0b b.f0.length c0b] (by rfl) rfl rfl (by (try simp only [List.map_toArray, List.map_cons, List.map_nil]); first | done | rfl) ?_
                with_reducible refine (hcf _ HB2.out).mono ?_
                rintro e w3 ⟨rfl, hb3⟩
                refine ⟨_, rfl, ?_⟩
                have HB3 := Aside0.mk (below_step HB2.out hb3)
                have HT3 := Aside0.mk (blk_below HT2.out hb3)
                have HN3 := Aside0.mk (blk_below HN2.out hb3)
                have s0 := pw_cell_below hb3 hHeld.1
                have s1 := pw_cell_below hb3 hHeld.2.1
                have s2 := pw_cell_below hb3 hHeld.2.2
                clear hb3
                have hHeld_ := hHeld
                refine hK.out _ _ ⟨s0, s1, s2⟩ (fun hHeld => ?_)
                clear hK K hHeld_
                refine no_ 156 ?_
                refine pu_ 11 157 ?_
                refine pu_ 12 158 ?_
                refine pu_ 13 159 ?_
                refine pu_ 14 160 ?_
                refine ta_ 15 161 ?_
                refine pu_ 16 162 ?_
                refine on_ 17 (some 163) fun K hK => ?_
                refine goes_ Tryz.func67 (by kernel_rfl) rfl #[.slice A0b b.f0.length c0b, .int .i64 dims] (by rfl) rfl rfl (by (try simp only [List.map_toArray, List.map_cons, List.map_nil]); first | done | rfl) ?_
                with_reducible refine (hcl _ HB3.out).mono ?_
                rintro e w4 ⟨rfl, hb4⟩
                refine ⟨_, rfl, ?_⟩
                have HB4 := Aside0.mk (below_step HB3.out hb4)
                have HT4 := Aside0.mk (blk_below HT3.out hb4)
                have HN4 := Aside0.mk (blk_below HN3.out hb4)
                have s0 := pw_cell_below hb4 hHeld.1
                have s1 := pw_cell_below hb4 hHeld.2.1
                have s2 := pw_cell_below hb4 hHeld.2.2
                clear hb4
                have hHeld_ := hHeld
                refine hK.out _ _ ⟨s0, s1, s2⟩ (fun hHeld => ?_)
                clear hK K hHeld_
                refine no_ 163 ?_
                refine pu_ 18 164 ?_
                refine pu_ 19 165 ?_
                refine done_ (by kernel_rfl) ?_
                go_wp2
                go_meet
                exact ⟨false, rfl, ⟨fun h => absurd h Bool.false_ne_true⟩, ⟨fun h => HOK.out⟩, HN4, HB4, HT4⟩
             ·have b1 : ((b.f1.length : Int) != partsI t.f0) = true := by simp [q1]
              have HNOK : Aside0 (¬ AllOk fr fa wi nm t vars dims) := ⟨fun h => by have := (h.bs b HMB.out).1; rw [ownR, decide_eq_false q1] at this; exact absurd this Bool.false_ne_true⟩
              clear q1
              refine start_ (n := 20) (S := fun w' => w'.cell? ⟨bb, 0, none⟩ = some (.slice A0b b.f0.length c0b) ∧ w'.cell? ⟨bb, 1, none⟩ = some (.slice A1b b.f1.length c1b) ∧ w'.cell? ⟨bt, 0, none⟩ = some (.int .i64 t.f0)) (ds := []) (upA 20 0) (by kernel_rfl) rfl (by kernel_rfl) ⟨hn0, hn1, hz0⟩ (fun hHeld => ?_)
              have HB1 := Aside0.mk (below_drew HBA.out)
              have HT1 := Aside0.mk (blk_drew HTA.out)
              have HN1 := Aside0.mk (blk_drew HNA.out)
              clear hn0 hn1 hz0 HBA HTA HNA
              generalize WA.drew = W1 at *
              refine pu_ 0 146 ?_
              refine ta_ 1 147 ?_
              refine pu_ 2 148 ?_
              refine pu_ 3 149 ?_
              refine ta_ 4 150 ?_
              refine on_ 5 (some 151) fun K hK => ?_
              refine goes_ Tryz.func47 (by kernel_rfl) rfl #[.int .i64 t.f0] (by rfl) rfl rfl (by (try simp only [List.map_toArray, List.map_cons, List.map_nil]); first | done | rfl) ?_
              with_reducible refine (HP.out.parts t.f0 _).mono ?_
              rintro e w2 ⟨rfl, hb2⟩
              refine ⟨_, rfl, ?_⟩
              have HB2 := Aside0.mk (below_step HB1.out hb2)
              have HT2 := Aside0.mk (blk_below HT1.out hb2)
              have HN2 := Aside0.mk (blk_below HN1.out hb2)
              have s0 := pw_cell_below hb2 hHeld.1
              have s1 := pw_cell_below hb2 hHeld.2.1
              have s2 := pw_cell_below hb2 hHeld.2.2
              clear hb2
              have hHeld_ := hHeld
              refine hK.out _ _ ⟨s0, s1, s2⟩ (fun hHeld => ?_)
              clear hK K hHeld_
              refine no_ 151 ?_
              refine pu_ 6 152 ?_
              refine pu_ 7 153 ?_
              refine po_ 8 154 ?_
              refine po_ 9 155 ?_
              refine po_ 10 156 ?_
              refine po_ 11 157 ?_
              refine pu_ 12 158 ?_
              refine pu_ 13 159 ?_
              refine po_ 14 160 ?_
              refine po_ 15 161 ?_
              refine po_ 16 162 ?_
              refine po_ 17 163 ?_
              refine po_ 18 164 ?_
              refine pu_ 19 165 ?_
              refine done_ (by kernel_rfl) ?_
              go_wp2
              go_meet
              exact ⟨true, rfl, ⟨fun h => HNOK.out⟩, ⟨fun h => absurd h.symm Bool.false_ne_true⟩, HN2, HB2, HT2⟩
            case rest =>
             clear HBA HTA HNA
             obtain ⟨bb2, rfl, HY, HN, HNB, HB, HT⟩ := hcut
             cases bb2
             rotate_left
             ·have HQ : Aside0 (allT fr fa wi nm t vars dims = false) := ⟨HNo.out (HY.out rfl)⟩
              clear HY HN
              go_wp2
              go_ret
              exact ⟨by rw [HQ.out]; rfl, HB.out⟩
             ·have HRB := Aside0.mk (HN.out rfl)
              clear HY HN
              have hn1 := (blk_cell HNB.out 1).trans (rfl : _ = some (Value.slice A1b b.f1.length c1b))
              go_wp2
              obtain ⟨gp, rfl⟩ : ∃ gp, gp = gk := ⟨_, rfl⟩
              obtain ⟨wp_, rfl⟩ : ∃ wp_ : World, wp_ = wc := ⟨_, rfl⟩
              go_loopg [14] (b.f1.length + 1) (fun kq v14 wx => ∃ j : Nat, v14 = .int .i64 (j : Int) ∧ j ≤ b.f1.length ∧ kq + j = b.f1.length + 1 ∧ Aside0 (allP fr fa wi nm b.f1 vars (dims + moreI t.f0) = allP fr fa wi nm (b.f1.drop j) vars (dims + moreI t.f0)) ∧ Aside0 (wx.heap[bb]? = some (.cells #[.slice A0b b.f0.length c0b, .slice A1b b.f1.length c1b] 90 (0, 0))) ∧ Aside0 (Below w.heap.size w wx) ∧ Aside0 (wx.heap[bt]? = some (.cells #[.int .i64 t.f0, .int .i64 t.f1, .string t.f2, .slice A3 t.f3.length c3, .slice A4 t.f4.length c4, .slice (some ad) t.f5.length c5] 49 (0, 0))))
              case atStart => exact ⟨0, rfl, Nat.zero_le _, rfl, ⟨rfl⟩, HNB, HB, HT⟩
              case round =>
               clear HNB HB HT hn1
               obtain ⟨j, rfl, hj, hkj, HE, HNB, HB, HT⟩ := hrel
               have hn1 := (blk_cell HNB.out 1).trans (rfl : _ = some (Value.slice A1b b.f1.length c1b))
               by_cases hlt : j < b.f1.length
               ·have hd : decide ((j : Int) < (b.f1.length : Int)) = true := decide_eq_true (by omega)
                obtain ⟨ad3, A3k, c3k, A4k, c4k, A5k, c5k, e, g0, g1, g2, g3, g4, g5, hKk⟩ := at_tm HG1.out j hlt
                cases e
                have hmem : b.f1[j] ∈ b.f1 := List.getElem_mem _
                have hdr := List.drop_eq_getElem_cons hlt
                obtain ⟨k, hkk⟩ : ∃ k, b.f1[j] = k := ⟨_, rfl⟩
                rw [hkk] at g0 g1 g2 g3 g4 g5 hKk hmem hdr
                have hE := HE.out
                rw [hdr, allP] at hE
                have HEE := Aside0.mk hE
                have HMO := Aside0.mk (moreI_01 t.f0)
                have hca : ∀ w3, Below w.heap.size w w3 → _ := fun w3 h => HIH.out k vars (dims + moreI t.f0) _ w3 (by have := sizeT_part HMB.out hmem; omega) (okSL_mem HOB.out.2 hmem) h0 (by omega) (by have := HMO.out; omega) (by have := HMO.out; omega) (k49.K_below h hKk)
                have hz0 := (blk_cell HT.out 0).trans (rfl : _ = some (Value.int .i64 t.f0))
                replace g0 := pw_cell_below HB.out g0
                replace g1 := pw_cell_below HB.out g1
                replace g2 := pw_cell_below HB.out g2
                replace g3 := pw_cell_below HB.out g3
                replace g4 := pw_cell_below HB.out g4
                replace g5 := pw_cell_below HB.out g5
                have hp0 : (0 : Int) ≤ (j : Int) := by omega
                obtain ⟨mo0, mo1⟩ := HMO.out
                have hwd : IntKind.i64.wrap (dims + moreI t.f0) = dims + moreI t.f0 := by rw [IntKind.wrap_i64]; omega
                clear hE HE hdr hkk hmem hKk
                go_upto_region 40 with fail
                cases ha : allT fr fa wi nm k vars (dims + moreI t.f0)
                ·have HQ : Aside0 (allT fr fa wi nm t vars dims = false) := ⟨HNo.out fun h => by have := (h.bs b HMB.out).2; rw [allBr_eq, HEE.out, ha] at this; exact absurd this Bool.false_ne_true⟩
                 rw [ha] at hca
                 clear ha
                 refine start_ (n := 14) (S := fun w' => w'.cell? ⟨bb, 1, none⟩ = some (.slice (some ad3) b.f1.length c1b) ∧ w'.cell? ⟨bt, 0, none⟩ = some (.int .i64 t.f0) ∧ w'.cell? (ad3.add (j * 6)) = some (.int .i64 k.f0) ∧ w'.cell? ⟨(ad3.add (j * 6)).block, (ad3.add (j * 6)).off + 1, none⟩ = some (.int .i64 k.f1) ∧ w'.cell? ⟨(ad3.add (j * 6)).block, (ad3.add (j * 6)).off + 2, none⟩ = some (.string k.f2) ∧ w'.cell? ⟨(ad3.add (j * 6)).block, (ad3.add (j * 6)).off + 3, none⟩ = some (.slice A3k k.f3.length c3k) ∧ w'.cell? ⟨(ad3.add (j * 6)).block, (ad3.add (j * 6)).off + 4, none⟩ = some (.slice A4k k.f4.length c4k) ∧ w'.cell? ⟨(ad3.add (j * 6)).block, (ad3.add (j * 6)).off + 5, none⟩ = some (.slice A5k k.f5.length c5k)) (ds := []) (upA 14 0) (by kernel_rfl) rfl (by kernel_rfl) ⟨hn1, hz0, g0, g1, g2, g3, g4, g5⟩ (fun hHeld => ?_)
                 have HB1 := Aside0.mk (below_drew HB.out)
                 have HT1 := Aside0.mk (blk_drew HT.out)
                 have HN1 := Aside0.mk (blk_drew HNB.out)
                 clear hn1 hz0 g0 g1 g2 g3 g4 g5 HB HT HNB
                 generalize wr.drew = W1 at *
                 refine pu_ 0 173 ?_
                 refine ta_ 1 174 ?_
                 refine pu_ 2 175 ?_
                 refine pu_ 3 176 ?_
                 refine ta_ 4 177 ?_
                 refine pu_ 5 178 ?_
                 refine pu_ 6 179 ?_
                 refine pu_ 7 180 ?_
                 refine ta_ 8 181 ?_
                 refine pu_ 11 184 ?_
                 refine on_ 9 (some 182) fun K hK => ?_
                 refine goes_ Tryz.func69 (by kernel_rfl) rfl #[.int .i64 t.f0] (by rfl) rfl rfl (by (try simp only [List.map_toArray, List.map_cons, List.map_nil]); first | done | rfl) ?_
                 with_reducible refine (HP.out.more t.f0 _).mono ?_
                 rintro e w2 ⟨rfl, hb2⟩
                 refine ⟨_, rfl, ?_⟩
                 have HB2 := Aside0.mk (below_step HB1.out hb2)
                 have HT2 := Aside0.mk (blk_below HT1.out hb2)
                 have HN2 := Aside0.mk (blk_below HN1.out hb2)
                 have s0 := pw_cell_below hb2 hHeld.1
                 have s1 := pw_cell_below hb2 hHeld.2.1
                 have s2 := pw_cell_below hb2 hHeld.2.2.1
                 have s3 := pw_cell_below hb2 hHeld.2.2.2.1
                 have s4 := pw_cell_below hb2 hHeld.2.2.2.2.1
                 have s5 := pw_cell_below hb2 hHeld.2.2.2.2.2.1
                 have s6 := pw_cell_below hb2 hHeld.2.2.2.2.2.2.1
                 have s7 := pw_cell_below hb2 hHeld.2.2.2.2.2.2.2
                 clear hb2
                 have hHeld_ := hHeld
                 refine hK.out _ _ ⟨s0, s1, s2, s3, s4, s5, s6, s7⟩ (fun hHeld => ?_)
                 clear hK K hHeld_
                 refine no_ 182 ?_
                 refine pu_ 10 183 ?_
                 refine on_ 12 (some 185) fun K hK => ?_
                 refine goes_ Tryz.func44 (by kernel_rfl) rfl #[.agg #[.int .i64 k.f0, .int .i64 k.f1, .string k.f2, .slice A3k k.f3.length c3k, .slice A4k k.f4.length c4k, .slice A5k k.f5.length c5k], .int .i64 vars, .int .i64 (dims + moreI t.f0), .bool true] (by rfl) rfl rfl (by (try simp only [List.map_toArray, List.map_cons, List.map_nil]); first | done | rfl) ?_
                 with_reducible refine (hca _ HB2.out).mono ?_
                 rintro e w3 ⟨rfl, hb3⟩
                 refine ⟨_, rfl, ?_⟩
                 have HB3 := Aside0.mk (below_step HB2.out hb3)
                 have HT3 := Aside0.mk (blk_below HT2.out hb3)
                 have HN3 := Aside0.mk (blk_below HN2.out hb3)
                 have s0 := pw_cell_below hb3 hHeld.1
                 have s1 := pw_cell_below hb3 hHeld.2.1
                 have s2 := pw_cell_below hb3 hHeld.2.2.1
                 have s3 := pw_cell_below hb3 hHeld.2.2.2.1
                 have s4 := pw_cell_below hb3 hHeld.2.2.2.2.1
                 have s5 := pw_cell_below hb3 hHeld.2.2.2.2.2.1
                 have s6 := pw_cell_below hb3 hHeld.2.2.2.2.2.2.1
                 have s7 := pw_cell_below hb3 hHeld.2.2.2.2.2.2.2
                 clear hb3
                 have hHeld_ := hHeld
                 refine hK.out _ _ ⟨s0, s1, s2, s3, s4, s5, s6, s7⟩ (fun hHeld => ?_)
                 clear hK K hHeld_
                 refine no_ 185 ?_
                 refine pu_ 13 186 ?_
                 refine done_ (by kernel_rfl) ?_
                 go_wp2
                 go_ret
                 exact ⟨by rw [HQ.out]; rfl, HB3.out⟩
                ·have HE2 : Aside0 (allP fr fa wi nm b.f1 vars (dims + moreI t.f0) = allP fr fa wi nm (b.f1.drop (j + 1)) vars (dims + moreI t.f0)) := ⟨by rw [HEE.out, ha, Bool.true_and]⟩
                 rw [ha] at hca
                 clear ha
                 refine start_ (n := 14) (S := fun w' => w'.cell? ⟨bb, 1, none⟩ = some (.slice (some ad3) b.f1.length c1b) ∧ w'.cell? ⟨bt, 0, none⟩ = some (.int .i64 t.f0) ∧ w'.cell? (ad3.add (j * 6)) = some (.int .i64 k.f0) ∧ w'.cell? ⟨(ad3.add (j * 6)).block, (ad3.add (j * 6)).off + 1, none⟩ = some (.int .i64 k.f1) ∧ w'.cell? ⟨(ad3.add (j * 6)).block, (ad3.add (j * 6)).off + 2, none⟩ = some (.string k.f2) ∧ w'.cell? ⟨(ad3.add (j * 6)).block, (ad3.add (j * 6)).off + 3, none⟩ = some (.slice A3k k.f3.length c3k) ∧ w'.cell? ⟨(ad3.add (j * 6)).block, (ad3.add (j * 6)).off + 4, none⟩ = some (.slice A4k k.f4.length c4k) ∧ w'.cell? ⟨(ad3.add (j * 6)).block, (ad3.add (j * 6)).off + 5, none⟩ = some (.slice A5k k.f5.length c5k)) (ds := []) (upA 14 0) (by kernel_rfl) rfl (by kernel_rfl) ⟨hn1, hz0, g0, g1, g2, g3, g4, g5⟩ (fun hHeld => ?_)
                 have HB1 := Aside0.mk (below_drew HB.out)
                 have HT1 := Aside0.mk (blk_drew HT.out)
                 have HN1 := Aside0.mk (blk_drew HNB.out)
                 clear hn1 hz0 g0 g1 g2 g3 g4 g5 HB HT HNB
                 generalize wr.drew = W1 at *
                 refine pu_ 0 173 ?_
                 refine ta_ 1 174 ?_
                 refine pu_ 2 175 ?_
                 refine pu_ 3 176 ?_
                 refine ta_ 4 177 ?_
                 refine pu_ 5 178 ?_
                 refine pu_ 6 179 ?_
                 refine pu_ 7 180 ?_
                 refine ta_ 8 181 ?_
                 refine pu_ 11 184 ?_
                 refine on_ 9 (some 182) fun K hK => ?_
                 refine goes_ Tryz.func69 (by kernel_rfl) rfl #[.int .i64 t.f0] (by rfl) rfl rfl (by (try simp only [List.map_toArray, List.map_cons, List.map_nil]); first | done | rfl) ?_
                 with_reducible refine (HP.out.more t.f0 _).mono ?_
                 rintro e w2 ⟨rfl, hb2⟩
                 refine ⟨_, rfl, ?_⟩
                 have HB2 := Aside0.mk (below_step HB1.out hb2)
                 have HT2 := Aside0.mk (blk_below HT1.out hb2)
                 have HN2 := Aside0.mk (blk_below HN1.out hb2)
                 have s0 := pw_cell_below hb2 hHeld.1
                 have s1 := pw_cell_below hb2 hHeld.2.1
                 have s2 := pw_cell_below hb2 hHeld.2.2.1
                 have s3 := pw_cell_below hb2 hHeld.2.2.2.1
                 have s4 := pw_cell_below hb2 hHeld.2.2.2.2.1
                 have s5 := pw_cell_below hb2 hHeld.2.2.2.2.2.1
                 have s6 := pw_cell_below hb2 hHeld.2.2.2.2.2.2.1
                 have s7 := pw_cell_below hb2 hHeld.2.2.2.2.2.2.2
                 clear hb2
                 have hHeld_ := hHeld
                 refine hK.out _ _ ⟨s0, s1, s2, s3, s4, s5, s6, s7⟩ (fun hHeld => ?_)
                 clear hK K hHeld_
                 refine no_ 182 ?_
                 refine pu_ 10 183 ?_
                 refine on_ 12 (some 185) fun K hK => ?_
                 refine goes_ Tryz.func44 (by kernel_rfl) rfl #[.agg #[.int .i64 k.f0, .int .i64 k.f1, .string k.f2, .slice A3k k.f3.length c3k, .slice A4k k.f4.length c4k, .slice A5k k.f5.length c5k], .int .i64 vars, .int .i64 (dims + moreI t.f0), .bool true] (by rfl) rfl rfl (by (try simp only [List.map_toArray, List.map_cons, List.map_nil]); first | done | rfl) ?_
                 with_reducible refine (hca _ HB2.out).mono ?_
                 rintro e w3 ⟨rfl, hb3⟩
                 refine ⟨_, rfl, ?_⟩
                 have HB3 := Aside0.mk (below_step HB2.out hb3)
                 have HT3 := Aside0.mk (blk_below HT2.out hb3)
                 have HN3 := Aside0.mk (blk_below HN2.out hb3)
                 have s0 := pw_cell_below hb3 hHeld.1
                 have s1 := pw_cell_below hb3 hHeld.2.1
                 have s2 := pw_cell_below hb3 hHeld.2.2.1
                 have s3 := pw_cell_below hb3 hHeld.2.2.2.1
                 have s4 := pw_cell_below hb3 hHeld.2.2.2.2.1
                 have s5 := pw_cell_below hb3 hHeld.2.2.2.2.2.1
                 have s6 := pw_cell_below hb3 hHeld.2.2.2.2.2.2.1
                 have s7 := pw_cell_below hb3 hHeld.2.2.2.2.2.2.2
                 clear hb3
                 have hHeld_ := hHeld
                 refine hK.out _ _ ⟨s0, s1, s2, s3, s4, s5, s6, s7⟩ (fun hHeld => ?_)
                 clear hK K hHeld_
                 refine no_ 185 ?_
                 refine pu_ 13 186 ?_
                 refine done_ (by kernel_rfl) ?_
                 clear hwd
                 go_wp2
                 go_roundg (gk - 1)
                 case measure => omega
                 case rel => exact ⟨j + 1, rfl, by omega, by omega, HE2, HN3, HB3, HT3⟩
               ·have hd : decide ((j : Int) < (b.f1.length : Int)) = false := decide_eq_false (by omega)
                have HBR : Aside0 (allBr fr fa wi nm t.f0 b vars dims = true) := ⟨by
                 have h := HE.out
                 rw [List.drop_eq_nil_of_le (by omega), allP] at h
                 rw [allBr_eq]
                 exact h⟩
                go_wp2
                go_roundg (gp - 1)
                case measure => omega
                case rel => exact ⟨i + 1, rfl, by omega, by omega, ⟨fun c hc => (HTK.out c hc).elim (fun h => HA.out c h) (fun h => by rw [h]; exact ⟨HRB.out, HBR.out⟩)⟩, HB, HT⟩
           ·have hdi : decide ((i : Int) < (t.f5.length : Int)) = false := decide_eq_false (by omega)
            have HQ : Aside0 (allT fr fa wi nm t vars dims = true) := ⟨HYes.out ⟨by omega, HQ1.out, HQ2.out, HG1.out.1, HG1.out.2, HG2.out.1, HG2.out.2, HG3x.out.1, HG3x.out.2.1, HG3x.out.2.2, HLO.out, HKS.out, fun b hb => HA.out b (by rw [List.take_of_length_le (by omega)]; exact hb)⟩⟩
            go_wp2
            go_ret
            exact ⟨by rw [HQ.out]; rfl, HB.out⟩
end
end Go.Proofs.YtahdjajdaggmjaaGreatDoor.XPa
