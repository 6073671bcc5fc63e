/-
Walks: pack.Decode.
-/
import Derived.Test.YtahdjajdaggmjaaGreatDoorUtab
import Derived.Test.YtahdjajdaggmjaaGreatDoorYrec
set_option linter.unusedVariables false
set_option linter.unusedSimpArgs false
namespace Go.Proofs.YtahdjajdaggmjaaGreatDoor.XPa
open Go.RowKit Go.Proofs.YtahdjajdaggmjaaGreatDoorW.PrintWords Go.Proofs.YtahdjajdaggmjaaGreatDoorW.PrintLast Go.Proofs.YtahdjajdaggmjaaGreatDoorW.PrintMore
theorem Res3.made (w : World) (v : Value) (a e : Int) : Res3 (((w.alloc (.cells #[v] 29)).alloc (.cells #[.int .i64 a] 3)).alloc (.cells #[.int .i64 e] 26)) w.heap.size v a e := by
 refine ⟨?_, ?_, ?_⟩
 ·exact blk_below (blk_below (blk_new w _) (below_alloc (Below.refl _ _) _)) (below_alloc (Below.refl _ _) _)
 ·exact blk_below (by have := blk_new (w.alloc (.cells #[v] 29)) (.cells #[.int .i64 a] 3); simpa using this) (below_alloc (Below.refl _ _) _)
 ·have := blk_new ((w.alloc (.cells #[v] 29)).alloc (.cells #[.int .i64 a] 3)) (.cells #[.int .i64 e] 26)
  simpa using this
theorem made_below (w : World) (v : Value) (a e : Int) : Below w.heap.size w (((w.alloc (.cells #[v] 29)).alloc (.cells #[.int .i64 a] 3)).alloc (.cells #[.int .i64 e] 26)) := below_alloc (below_alloc (below_alloc (Below.refl w.heap.size w) _) _) _
def OnlyN (Q : Exit → Act → World → Prop) : Exit → Act → World → Prop
 | .normal, a, w => Q .normal a w
 | _, _, _ => False
theorem only_of {Q : Exit → Act → World → Prop} {a : Act} {w : World} (h : Q .normal a w) : OnlyN Q .normal a w := h
theorem only_n {P : Program} {c : Code} {a : Act} {w : World} {Q : Exit → Act → World → Prop} (h : c.wp P (OnlyN Q) a w) : c.wp P Q a w :=
 Code.wp_mono (fun e a w h => by cases e <;> first | exact h | exact h.elim) h
theorem strNums_ne {xs ys : List Int} (hx : ∀ x ∈ xs, 0 ≤ x ∧ x < 256) (hy : ∀ x ∈ ys, 0 ≤ x ∧ x < 256) (h : xs ≠ ys) : ((strOfNums xs).toList == (strOfNums ys).toList) = false := by
 rw [Bool.eq_false_iff, ne_eq, beq_iff_eq, ByteArray.toList_eq, ByteArray.toList_eq]
 have back : ∀ {zs : List Int}, (∀ x ∈ zs, 0 ≤ x ∧ x < 256) → (strOfNums zs).data.toList.map (fun b => ((b.toNat : Nat) : Int)) = zs := by
  intro zs hz
  simp only [strOfNums, List.map_map]
  conv => rhs; rw [← List.map_id zs]
  refine List.map_congr_left fun x hx => ?_
  obtain ⟨h0, h1⟩ := hz x hx
  simp only [Function.comp, id]
  rw [UInt8.toNat_ofNat_of_lt' (by show x.toNat < 256; omega)]
  omega
 exact fun e => h (by rw [← back hx, ← back hy, e])
theorem res3_out {w : World} {g : Nat} {v : Value} {a e : Int} (h : Res3 w g v a e) (x0 x1 : Value) (ts : List Value) :
  (results Tryz.f13 ⟨x0 :: x1 :: .pointer (some ⟨g, 0, none⟩) :: .pointer (some ⟨g + 1, 0, none⟩) :: .pointer (some ⟨g + 2, 0, none⟩) :: ts⟩).run Tryz.prog w = .ok (.tuple #[v, .int .i64 a, .int .i64 e]) w := by
 have h0 := cell_of_one h.1
 have h1 := cell_of_one h.2.1
 have h2 := cell_of_one h.2.2
 simp [results, Tryz.results13, go_sem, h0, h1, h2]
def upD (n k : Nat) : Array Bool := (List.replicate k true ++ List.replicate (n - k) false).toArray
def headB (bs : List Int) : Option Int := if rd bs 0 ≠ 72 then some 0 else if rd bs 1 ≠ 67 then some 1 else if rd bs 2 ≠ 1 then some 2 else none
theorem headB_none {bs : List Int} (h : headB bs = none) : rd bs 0 = 72 ∧ rd bs 1 = 67 ∧ rd bs 2 = 1 := by
 unfold headB at h
 split at h
 ·cases h
 ·split at h
  ·cases h
  ·split at h
   ·cases h
   ·rename_i h1 h2 h3
    exact ⟨Decidable.of_not_not h1, Decidable.of_not_not h2, Decidable.of_not_not h3⟩
theorem headB_of {bs : List Int} (h : rd bs 0 = 72 ∧ rd bs 1 = 67 ∧ rd bs 2 = 1) : headB bs = none := by
 simp [headB, h]
theorem rst_made (w2 : World) (A0 : Option Addr) (c0 : Nat) (lt : List Int) (hC : Kd.C (Kd.int .u8) w2 A0 lt.length lt) (hc : lt.length ≤ c0) (hl : lt.length ≤ 1048576) (ho : ∀ x ∈ lt, 0 ≤ x ∧ x < 256) :
  RSt w2 (((w2.alloc (.map #[] 0)).alloc (.cells #[.slice A0 lt.length c0, .int .i64 0, .map (some w2.heap.size)] 76)).alloc (.cells #[.int .u8 72, .int .u8 67, .int .u8 1] 5)) (w2.heap.size + 1) lt 0 w2.heap.size := by
 refine ⟨Nat.le_succ _, ⟨A0, c0, ?_, hc, hC⟩, hl, Nat.zero_le _, ho⟩
 refine blk_below ?_ (below_alloc (Below.refl _ _) _)
 have := blk_new (w2.alloc (.map #[] 0)) (.cells #[.slice A0 lt.length c0, .int .i64 0, .map (some w2.heap.size)] 76)
 simpa using this
theorem lit_made (w2 : World) (o : Obj) : (((w2.alloc (.map #[] 0)).alloc o).alloc (.cells #[.int .u8 72, .int .u8 67, .int .u8 1] 5)).heap[w2.heap.size + 1 + 1]? = some (.cells #[.int .u8 72, .int .u8 67, .int .u8 1] 5 (0, 0)) := by
 have := blk_new ((w2.alloc (.map #[] 0)).alloc o) (.cells #[.int .u8 72, .int .u8 67, .int .u8 1] 5)
 simpa using this
def body0 (bs : List Int) : Except (Int × Int) Unit :=
 match headB bs with
 | some a => .error (a, 61)
 | none => match numS bs 3 with
  | .error e => .error e
  | .ok (_, s) => if s < bs.length then .error ((s : Int), 61) else .ok ()
def dec0 (sl : List Int → List Int) (l : List Int) : Int × Int :=
 if 1048576 < l.length then (0, 3) else if l.length < 8 then (0, 61) else if sl (l.take (l.length - 4)) ≠ l then (((l.length - 4 : Nat) : Int), 271)
 else match body0 (l.take (l.length - 4)) with
  | .error e => e
  | .ok _ => (0, 0)
set_option maxHeartbeats 4000000 in
set_option maxRecDepth 100000 in
theorem pa_Decode1 {PS : List Int → Prop} {sl : List Int → List Int} (hsl : ∀ (u : Value) (l : List Int) (w0 w : World), Below w0.heap.size w0 w → Kd.R (Kd.int .u8) 5 w w0.heap.size (fun _ => True) u l → PS l →
  Calls Tryz.prog 22 #[u] w fun e w' => ∃ v, e = .returned v ∧ Kd.R (Kd.int .u8) 5 w' w0.heap.size (fun _ => True) v (sl l) ∧ Below w0.heap.size w0 w') (A0 : Option Addr) (c0 : Nat) (l : List Int) (w : World) (hC : Kd.C (Kd.int .u8) w A0 l.length l) (hc : l.length ≤ c0)
  (ho : ∀ x ∈ l, 0 ≤ x ∧ x < 256) (hps : PS (l.take (l.length - 4))) (hso : ∀ x ∈ sl (l.take (l.length - 4)), 0 ≤ x ∧ x < 256) (hn : headB (l.take (l.length - 4)) = none ∧ numS (l.take (l.length - 4)) 3 = .ok (0, l.length - 4)) :
  Calls Tryz.prog 13 #[.slice A0 l.length c0] w fun e w' => e = .returned (.tuple #[.slice none 0 0, .int .i64 (dec0 sl l).1, .int .i64 (dec0 sl l).2]) ∧ Below w.heap.size w w' := by
 have hmf : ∀ (fn : Fn) (first cap : Array Value) (w : World), (Instr.makeFunc fn first cap).run Tryz.prog w = .ok (.func fn first cap) w := fun _ _ _ _ => rfl
 have hmm := @run_makeMap Tryz.prog
 have HC := Aside0.mk hC
 clear hC
 go_enter_defers Tryz.func13, Tryz.ntmps13
 by_cases h1 : 1048576 < l.length
 ·have h1' : (1048576 : Int) < (l.length : Int) := by omega
  go_wp2
  exact ⟨_, res3_out (Res3.made w (.slice none 0 0) 0 3) _ _ _, by rw [dec0, if_pos h1], made_below w _ _ _⟩
 ·by_cases h2 : l.length < 8
  ·have h1' : ¬ (1048576 : Int) < (l.length : Int) := by omega
   have h2' : (l.length : Int) < 8 := by omega
   go_wp2
   exact ⟨_, res3_out (Res3.made w (.slice none 0 0) 0 61) _ _ _, by rw [dec0, if_neg h1, if_pos h2], made_below w _ _ _⟩
  ·have h1' : ¬ (1048576 : Int) < (l.length : Int) := by omega
   have h2' : ¬ (l.length : Int) < 8 := by omega
   have h4 : wrap64 ((l.length : Int) - 4) = (l.length : Int) - 4 := by unfold wrap64; omega
   have hR0 := Res3.made w (.slice none 0 0) 0 0
   have hB0 := made_below w (.slice none 0 0) 0 0
   go_upto_if 0 with (fail)
   clear h4
   revert hR0 hB0
   generalize ((w.alloc (.cells #[.slice none 0 0] 29)).alloc (.cells #[.int .i64 0] 3)).alloc (.cells #[.int .i64 0] 26) = W0
   intro hR0 hB0
   have HR0 := Aside0.mk hR0
   have HB0 := Aside0.mk hB0
   clear hR0 hB0
   obtain ⟨lt, hlt⟩ : ∃ lt, lt = l.take (l.length - 4) := ⟨_, rfl⟩
   rw [← hlt] at hps hn hso
   have HLL := Aside0.mk (show lt.length = l.length - 4 by rw [hlt, List.length_take]; omega)
   have hst : ∀ W, Below W0.heap.size W0 W → (convert 23 9 (.slice A0 l.length c0)).run Tryz.prog W = .ok (.string (strOfNums l)) W := fun W hW => Kd.C_string Tryz.underlying23 Tryz.underlying5 Tryz.underlying9 (Kd.C_below (Kd.C_below HC.out HB0.out) hW)
   have HCT := Aside0.mk (show ∀ W, Below W0.heap.size W0 W → ReadsRow ((Kd.int .u8).K W) (Kd.int .u8).sz W A0 lt.length lt from fun W hW => by
    have h6 := Kd.C_take (Kd.C_below (Kd.C_below HC.out HB0.out) hW) (m := l.length - 4) (by omega)
    rw [← hlt] at h6
    exact h6)
   have HLT := Aside0.mk (show (([] : List Int).length + lt.length) * 1 ≤ 140737488355328 by rw [HLL.out, List.length_nil]; omega)
   have HLT2 := Aside0.mk hlt
   have hcut : ∀ W : World, (Instr.slice 23 (.slice A0 l.length c0) none (some (.int .i64 ((l.length : Int) - 4))) none).run Tryz.prog W = .ok (.slice A0 lt.length c0) W := fun W => by
    obtain ⟨i5, hi5, hz5⟩ := Option.map_eq_some_iff.1 uint8_info
    simp only [Prod.mk.injEq] at hz5
    have h6 := (print_take_int (P := Tryz.prog) (k := .u8) 23 5 Tryz.underlying23 hi5 hz5.2.1 A0 c0 l ((l.length : Int) - 4) (by omega) (by omega) hc).1 W
    rw [show ((l.length : Int) - 4).toNat = l.length - 4 by omega, ← hlt] at h6
    exact h6
   clear hlt
   by_cases h3 : sl lt = l
   ·
    refine only_n ?_
    refine start_ (n := 10) (S := fun w' => Below W0.heap.size W0 w') (ds := []) (upD 10 0) (by kernel_rfl) rfl (by kernel_rfl) (below_drew (Below.refl _ _)) (fun hHeld => ?_)
    refine pu_ 0 21 ?_
    refine pu_ 1 22 ?_
    refine pu_ 6 27 ?_
    refine take_ (i := 7) (N := some 28) (v := ?_) (a' := ?_) #[true, true, false, false, false, false, true, true, false, false] rfl rfl (by kernel_rfl) (fun _ _ _ h => h) (Or.inl ⟨by rfl, ?_⟩) hHeld ?_ ?_
    (rotate_left; (intro w' s0; have hs1 := hst w' s0; go_simp; with_reducible rfl); rotate_left; (simp only [Act.put, List.setIfInBounds_toArray, List.set_cons_zero, List.set_cons_succ]; rfl))
    refine pu_ 2 23 ?_
    refine on_ 3 (some 24) fun K hK => ?_
    refine Kd.R_append_rows_step (Kd.int .u8) (w0 := W0) W0.heap.size (by rfl) (.const (.slice none 0 0)) (.tmp 23) 23 5 (.int .u8 0) 1 rfl Tryz.underlying23 uint8_info rfl (by decide) (by decide) (.slice none 0 0) [] lt A0 lt.length c0 (fun _ => True) (fun _ => False) rfl rfl (Kd.R_nil _ _ _ _ _) (HCT.out _ hHeld) (fun _ _ h => h) (fun _ hk => hk.elim) (fun _ _ => trivial) hHeld hHeld.size HLT.out ?_
    intro v1 w1 hr1 hb1 hg1 hat1
    have HR1 := Aside0.mk hr1
    clear hr1 hat1
    have hHeld_ := hHeld
    refine hK.out _ _ hb1 (fun hHeld => ?_)
    clear hK K hHeld_
    refine no_ 24 ?_
    refine on_ 4 (some 25) fun K hK => ?_
    refine goes_ Tryz.func22 (by kernel_rfl) rfl #[v1] (by rfl) rfl rfl (by (try simp only [List.map_toArray, List.map_cons, List.map_nil]); first | done | rfl) ?_
    with_reducible refine (hsl v1 lt W0 _ hHeld (by simpa using HR1.out) hps).mono ?_
    rintro e w2 ⟨v2, rfl, hr2, hb2⟩
    refine ⟨_, rfl, ?_⟩
    obtain ⟨A2, n2, c2, rfl⟩ := slice3 hr2
    have hcv := Kd.C_string Tryz.underlying23 Tryz.underlying5 Tryz.underlying9 (c := c2) (Kd.R_reads' hr2).2.2
    rw [← (Kd.R_reads' hr2).1] at hcv
    rw [h3] at hcv
    clear hr2
    have HB2_ := Aside0.mk hb2
    have hHeld_ := hHeld
    refine hK.out _ _ hb2 (fun hHeld => ?_)
    clear hK K hHeld_
    refine no_ 25 ?_
    refine on_ 5 (some 26) fun K hK => ?_
    rw [if_pos (by rfl)]
    go_simp
    have hHeld_ := hHeld
    refine hK.out _ _ hHeld_ (fun hHeld => ?_)
    clear hK K hHeld_ hcv
    refine pu_ 8 29 ?_
    refine pu_ 9 20 ?_
    refine done_ (by kernel_rfl) ?_
    refine only_of ?_
    have h4 : wrap64 ((l.length : Int) - 4) = (l.length : Int) - 4 := by unfold wrap64; omega
    go_wp2
    have HHD := Aside0.mk (show rd lt 0 = 72 ∧ rd lt 1 = 67 ∧ rd lt 2 = 1 from headB_none hn.1)
    have HN := Aside0.mk hn.2
    have HRes := Aside0.mk (HR0.out.below hHeld)
    have HBw := Aside0.mk (below_step HB0.out hHeld)
    have HO := Aside0.mk (show ∀ x ∈ lt, 0 ≤ x ∧ x < 256 from fun x hx => by rw [HLT2.out] at hx; exact ho x (List.mem_of_mem_take hx))
    have HRd := Aside0.mk (rst_made w2 A0 c0 lt (HCT.out w2 hHeld) (by rw [HLL.out]; omega) (by rw [HLL.out]; omega) HO.out)
    have hq := lit_made w2 (.cells #[.slice A0 lt.length c0, .int .i64 0, .map (some w2.heap.size)] 76)
    have hB3 := below_alloc (below_alloc (below_alloc (Below.refl w2.heap.size w2) (.map #[] 0)) (.cells #[.slice A0 lt.length c0, .int .i64 0, .map (some w2.heap.size)] 76)) (.cells #[.int .u8 72, .int .u8 67, .int .u8 1] 5)
    clear h4 hn hst hcut hHeld HB2_ HCT HLT HR0 HB0
    revert hq hB3 HRd
    generalize ((w2.alloc (.map #[] 0)).alloc (.cells #[.slice A0 lt.length c0, .int .i64 0, .map (some w2.heap.size)] 76)).alloc (.cells #[.int .u8 72, .int .u8 67, .int .u8 1] 5) = W3
    intro HRd hq hB3
    have HB3 := Aside0.mk hB3
    clear hB3
    go_loopg [8, 43] 3 (fun kq v8 v43 w' => ∃ (j : Nat), v43 = .int .i64 (j : Int) ∧ j + kq = 3 ∧ Aside0 (RSt w2 w' (w2.heap.size + 1) lt j w2.heap.size) ∧ Aside0 (Below w2.heap.size w2 w') ∧ Aside0 (Kept W3 w' (fun k => k = w2.heap.size + 1)))
    case atStart => exact ⟨0, rfl, rfl, HRd, HB3, ⟨Kept.refl _ _⟩⟩
    case round =>
     obtain ⟨j, rfl, hj, HR, HB, HK⟩ := hrel
     by_cases hj3 : j = 3
     ·subst hj3
      clear hj HRd hq HB3
      go_wp2_with ((with_reducible refine (source_number w2 (w2.heap.size + 1) lt 3 w2.heap.size _ HB.out HR.out).mono ?_); rintro e w4 hp4; unfold RPost at hp4; rw [HN.out] at hp4; obtain ⟨hb4, hk4, hr4, v4, rfl, rfl⟩ := hp4; rw [← HLL.out] at hr4; have HB4 := Aside0.mk hb4; have HR4 := Aside0.mk hr4; clear hb4 hk4 hr4)
      go_loopg [73] 0 (fun kq v73 w' => v73 = .int .i64 0 ∧ w' = w4)
      case atStart => exact ⟨rfl, rfl⟩
      case round =>
       obtain ⟨rfl, rfl⟩ := hrel
       rename_i w4 _
       obtain ⟨A9, cap9, hv9, hc9, hC9⟩ := HR4.out.row
       obtain ⟨d0, d1, d2, e0, e1, e2⟩ := cells3 hv9
       have HR5 := Aside0.mk (HRes.out.below HB4.out)
       have r0 : wr.cell? ⟨w.heap.size, 0, none⟩ = some (.slice none 0 0) := cell_of_one HR5.out.1
       have r1 : wr.cell? ⟨w.heap.size + 1, 0, none⟩ = some (.int .i64 0) := cell_of_one HR5.out.2.1
       have r2 : wr.cell? ⟨w.heap.size + 1 + 1, 0, none⟩ = some (.int .i64 0) := cell_of_one HR5.out.2.2
       have f0 : wr.frozen? ⟨w.heap.size, 0, none⟩ = false := free_of_one HR5.out.1
       have f1 : wr.frozen? ⟨w.heap.size + 1, 0, none⟩ = false := free_of_one HR5.out.2.1
       have f2 : wr.frozen? ⟨w.heap.size + 1 + 1, 0, none⟩ = false := free_of_one HR5.out.2.2
       clear hv9 hc9 hC9
       go_wp2
       go_quiet (fail)
       go_wp2
       have HR6 := Aside0.mk ((((HR5.out.below (pw_below_drewN (Below.refl _ _) nq)).set0 (.slice none 0 0)).set1 0).set2 0)
       have HB6 := Aside0.mk ((((pw_below_drewN (below_step HBw.out HB4.out) nq).setCell (p := ⟨w.heap.size, 0, none⟩) (Nat.le_refl _) (.slice none 0 0)).setCell (p := ⟨w.heap.size + 1, 0, none⟩) (Nat.le_succ _) (.int .i64 0)).setCell (p := ⟨w.heap.size + 1 + 1, 0, none⟩) (by show w.heap.size ≤ w.heap.size + 1 + 1; omega) (.int .i64 0))
       have hd : dec0 sl l = (0, 0) := by
        rw [dec0, if_neg h1, if_neg h2, ← HLT2.out, if_neg (fun e => e h3), body0, headB_of HHD.out, HN.out]
        simp [HLL.out]
       refine leaves_cons (f := 28) (args := #[.pointer (some ⟨w.heap.size, 0, none⟩), .pointer (some ⟨w.heap.size + 1, 0, none⟩), .pointer (some ⟨w.heap.size + 2, 0, none⟩)]) (by simp) (by simp [go_sem]) ?_
       refine (decode_idle w.heap.size _).mono ?_
       rintro e u' w'' ⟨rfl, rfl, rfl⟩
       exact ⟨_, res3_out HR6.out _ _ _, by rw [hd], HB6.out⟩
     ·obtain ⟨s0, s1, s2, _⟩ := cells3 (blk_kept hq HK.out (by omega))
      have hlc := (rfl : (0 : Int) = 0)
      rcases (show j = 0 ∨ j = 1 ∨ j = 2 by omega) with rfl | rfl | rfl
      ·clear hlc
       go_wp2
       refine only_n ?_
       refine start_ (n := 11) (S := fun w' => Below w2.heap.size w2 w') (ds := []) (upD 11 0) (by kernel_rfl) rfl (by kernel_rfl) (below_drew HB.out) (fun hHeld => ?_)
       have HRD := Aside0.mk (show RSt w2 wr.drew (w2.heap.size + 1) lt 0 w2.heap.size from HR.out.below (below_drew (Below.refl _ _)))
       refine pu_ 0 47 ?_
       refine pu_ 1 48 ?_
       refine pu_ 2 49 ?_
       refine pu_ 3 50 ?_
       refine pu_ 4 51 ?_
       refine pu_ 5 52 ?_
       refine pu_ 6 53 ?_
       refine pu_ 9 56 ?_
       obtain ⟨A9, cap9, hv9, hc9, hC9⟩ := HRD.out.row
       have hat9 := (cells3 hv9).2.1
       clear hv9 hc9 hC9
       refine on_ 7 (some 54) fun K hK => ?_
       rw [if_pos (by rfl)]
       go_simp
       have hHeld_ := hHeld
       refine hK.out _ _ hHeld_ (fun hHeld => ?_)
       clear hK K hHeld_ hat9
       refine on_ 8 (some 55) fun K hK => ?_
       refine goes_ Tryz.func29 (by kernel_rfl) rfl #[.pointer (some ⟨w2.heap.size + 1, 0, none⟩), .int .i64 0] (by rfl) rfl rfl (by (try simp only [List.map_toArray, List.map_cons, List.map_nil]); first | done | rfl) ?_
       with_reducible refine (source_byte w2 (w2.heap.size + 1) lt 0 w2.heap.size 0 _ hHeld HRD.out (by have := HLL.out; omega)).mono ?_
       rintro e w4 ⟨rfl, hr4, hb4, hk4⟩
       refine ⟨_, rfl, ?_⟩
       rw [show rd lt ((0 : Nat) : Int) = 72 from HHD.out.1]
       have HR4 := Aside0.mk hr4
       have HB4 := Aside0.mk hb4
       have HK4 := Aside0.mk (HK.out.then_ (show Kept wr w4 _ from hk4) (fun _ h => .inl h))
       clear hr4 hk4
       have hHeld_ := hHeld
       refine hK.out _ _ hb4 (fun hHeld => ?_)
       clear hK K hHeld_
       refine no_ 55 ?_
       refine pu_ 10 57 ?_
       refine done_ (by kernel_rfl) ?_
       refine only_of ?_
       clear hHeld HB HR HRD HK
       go_wp2
       go_roundg (gk - 1)
       case measure => omega
       case rel => exact ⟨1, rfl, by omega, HR4, HB4, HK4⟩
      ·clear hlc
       go_wp2
       refine only_n ?_
       refine start_ (n := 11) (S := fun w' => Below w2.heap.size w2 w') (ds := []) (upD 11 0) (by kernel_rfl) rfl (by kernel_rfl) (below_drew HB.out) (fun hHeld => ?_)
       have HRD := Aside0.mk (show RSt w2 wr.drew (w2.heap.size + 1) lt 1 w2.heap.size from HR.out.below (below_drew (Below.refl _ _)))
       refine pu_ 0 47 ?_
       refine pu_ 1 48 ?_
       refine pu_ 2 49 ?_
       refine pu_ 3 50 ?_
       refine pu_ 4 51 ?_
       refine pu_ 5 52 ?_
       refine pu_ 6 53 ?_
       refine pu_ 9 56 ?_
       obtain ⟨A9, cap9, hv9, hc9, hC9⟩ := HRD.out.row
       have hat9 := (cells3 hv9).2.1
       clear hv9 hc9 hC9
       refine on_ 7 (some 54) fun K hK => ?_
       rw [if_pos (by rfl)]
       go_simp
       have hHeld_ := hHeld
       refine hK.out _ _ hHeld_ (fun hHeld => ?_)
       clear hK K hHeld_ hat9
       refine on_ 8 (some 55) fun K hK => ?_
       refine goes_ Tryz.func29 (by kernel_rfl) rfl #[.pointer (some ⟨w2.heap.size + 1, 0, none⟩), .int .i64 1] (by rfl) rfl rfl (by (try simp only [List.map_toArray, List.map_cons, List.map_nil]); first | done | rfl) ?_
       with_reducible refine (source_byte w2 (w2.heap.size + 1) lt 1 w2.heap.size 1 _ hHeld HRD.out (by have := HLL.out; omega)).mono ?_
       rintro e w4 ⟨rfl, hr4, hb4, hk4⟩
       refine ⟨_, rfl, ?_⟩
       rw [show rd lt ((1 : Nat) : Int) = 67 from HHD.out.2.1]
       have HR4 := Aside0.mk hr4
       have HB4 := Aside0.mk hb4
       have HK4 := Aside0.mk (HK.out.then_ (show Kept wr w4 _ from hk4) (fun _ h => .inl h))
       clear hr4 hk4
       have hHeld_ := hHeld
       refine hK.out _ _ hb4 (fun hHeld => ?_)
       clear hK K hHeld_
       refine no_ 55 ?_
       refine pu_ 10 57 ?_
       refine done_ (by kernel_rfl) ?_
       refine only_of ?_
       clear hHeld HB HR HRD HK
       go_wp2
       go_roundg (gk - 1)
       case measure => omega
       case rel => exact ⟨2, rfl, by omega, HR4, HB4, HK4⟩
      ·clear hlc
       go_wp2
       refine only_n ?_
       refine start_ (n := 11) (S := fun w' => Below w2.heap.size w2 w') (ds := []) (upD 11 0) (by kernel_rfl) rfl (by kernel_rfl) (below_drew HB.out) (fun hHeld => ?_)
       have HRD := Aside0.mk (show RSt w2 wr.drew (w2.heap.size + 1) lt 2 w2.heap.size from HR.out.below (below_drew (Below.refl _ _)))
       refine pu_ 0 47 ?_
       refine pu_ 1 48 ?_
       refine pu_ 2 49 ?_
       refine pu_ 3 50 ?_
       refine pu_ 4 51 ?_
       refine pu_ 5 52 ?_
       refine pu_ 6 53 ?_
       refine pu_ 9 56 ?_
       obtain ⟨A9, cap9, hv9, hc9, hC9⟩ := HRD.out.row
       have hat9 := (cells3 hv9).2.1
       clear hv9 hc9 hC9
       refine on_ 7 (some 54) fun K hK => ?_
       rw [if_pos (by rfl)]
       go_simp
       have hHeld_ := hHeld
       refine hK.out _ _ hHeld_ (fun hHeld => ?_)
       clear hK K hHeld_ hat9
       refine on_ 8 (some 55) fun K hK => ?_
       refine goes_ Tryz.func29 (by kernel_rfl) rfl #[.pointer (some ⟨w2.heap.size + 1, 0, none⟩), .int .i64 2] (by rfl) rfl rfl (by (try simp only [List.map_toArray, List.map_cons, List.map_nil]); first | done | rfl) ?_
       with_reducible refine (source_byte w2 (w2.heap.size + 1) lt 2 w2.heap.size 2 _ hHeld HRD.out (by have := HLL.out; omega)).mono ?_
       rintro e w4 ⟨rfl, hr4, hb4, hk4⟩
       refine ⟨_, rfl, ?_⟩
       rw [show rd lt ((2 : Nat) : Int) = 1 from HHD.out.2.2]
       have HR4 := Aside0.mk hr4
       have HB4 := Aside0.mk hb4
       have HK4 := Aside0.mk (HK.out.then_ (show Kept wr w4 _ from hk4) (fun _ h => .inl h))
       clear hr4 hk4
       have hHeld_ := hHeld
       refine hK.out _ _ hb4 (fun hHeld => ?_)
       clear hK K hHeld_
       refine no_ 55 ?_
       refine pu_ 10 57 ?_
       refine done_ (by kernel_rfl) ?_
       refine only_of ?_
       clear hHeld HB HR HRD HK
       go_wp2
       go_roundg (gk - 1)
       case measure => omega
       case rel => exact ⟨3, rfl, by omega, HR4, HB4, HK4⟩
   ·have hne : ((strOfNums (sl lt)).toList == (strOfNums l).toList) = false := strNums_ne hso ho h3
    refine only_n ?_
    refine start_ (n := 10) (S := fun w' => Below W0.heap.size W0 w') (ds := []) (upD 10 0) (by kernel_rfl) rfl (by kernel_rfl) (below_drew (Below.refl _ _)) (fun hHeld => ?_)
    refine pu_ 0 21 ?_
    refine pu_ 1 22 ?_
    refine pu_ 6 27 ?_
    refine take_ (i := 7) (N := some 28) (v := ?_) (a' := ?_) #[true, true, false, false, false, false, true, true, false, false] rfl rfl (by kernel_rfl) (fun _ _ _ h => h) (Or.inl ⟨by rfl, ?_⟩) hHeld ?_ ?_
    (rotate_left; (intro w' s0; have hs1 := hst w' s0; go_simp; with_reducible rfl); rotate_left; (simp only [Act.put, List.setIfInBounds_toArray, List.set_cons_zero, List.set_cons_succ]; rfl))
    refine pu_ 2 23 ?_
    refine on_ 3 (some 24) fun K hK => ?_
    refine Kd.R_append_rows_step (Kd.int .u8) (w0 := W0) W0.heap.size (by rfl) (.const (.slice none 0 0)) (.tmp 23) 23 5 (.int .u8 0) 1 rfl Tryz.underlying23 uint8_info rfl (by decide) (by decide) (.slice none 0 0) [] lt A0 lt.length c0 (fun _ => True) (fun _ => False) rfl rfl (Kd.R_nil _ _ _ _ _) (HCT.out _ hHeld) (fun _ _ h => h) (fun _ hk => hk.elim) (fun _ _ => trivial) hHeld hHeld.size HLT.out ?_
    intro v1 w1 hr1 hb1 hg1 hat1
    have HR1 := Aside0.mk hr1
    clear hr1 hat1
    have hHeld_ := hHeld
    refine hK.out _ _ hb1 (fun hHeld => ?_)
    clear hK K hHeld_
    refine no_ 24 ?_
    refine on_ 4 (some 25) fun K hK => ?_
    refine goes_ Tryz.func22 (by kernel_rfl) rfl #[v1] (by rfl) rfl rfl (by (try simp only [List.map_toArray, List.map_cons, List.map_nil]); first | done | rfl) ?_
    with_reducible refine (hsl v1 lt W0 _ hHeld (by simpa using HR1.out) hps).mono ?_
    rintro e w2 ⟨v2, rfl, hr2, hb2⟩
    refine ⟨_, rfl, ?_⟩
    obtain ⟨A2, n2, c2, rfl⟩ := slice3 hr2
    have hcv := Kd.C_string Tryz.underlying23 Tryz.underlying5 Tryz.underlying9 (c := c2) (Kd.R_reads' hr2).2.2
    rw [← (Kd.R_reads' hr2).1] at hcv
    clear hr2
    have HB2_ := Aside0.mk hb2
    have hHeld_ := hHeld
    refine hK.out _ _ hb2 (fun hHeld => ?_)
    clear hK K hHeld_
    refine no_ 25 ?_
    refine on_ 5 (some 26) fun K hK => ?_
    rw [if_pos (by rfl)]
    go_simp
    have hHeld_ := hHeld
    refine hK.out _ _ hHeld_ (fun hHeld => ?_)
    clear hK K hHeld_ hcv
    refine pu_ 8 29 ?_
    refine pu_ 9 20 ?_
    refine done_ (by kernel_rfl) ?_
    refine only_of ?_
    have HR2 := Aside0.mk (HR0.out.below hHeld)
    have c0 : w2.cell? ⟨w.heap.size, 0, none⟩ = some (.slice none 0 0) := cell_of_one HR2.out.1
    have c1 : w2.cell? ⟨w.heap.size + 1, 0, none⟩ = some (.int .i64 0) := cell_of_one HR2.out.2.1
    have c2 : w2.cell? ⟨w.heap.size + 1 + 1, 0, none⟩ = some (.int .i64 0) := cell_of_one HR2.out.2.2
    have f0 : w2.frozen? ⟨w.heap.size, 0, none⟩ = false := free_of_one HR2.out.1
    have f1 : w2.frozen? ⟨w.heap.size + 1, 0, none⟩ = false := free_of_one HR2.out.2.1
    have f2 : w2.frozen? ⟨w.heap.size + 1 + 1, 0, none⟩ = false := free_of_one HR2.out.2.2
    have HHeld := Aside0.mk hHeld
    clear hHeld
    go_wp2
    have hd : dec0 sl l = ((l.length : Int) - 4, 271) := by
     rw [dec0, if_neg h1, if_neg h2, ← HLT2.out, if_pos h3, show ((l.length - 4 : Nat) : Int) = (l.length : Int) - 4 by omega]
    exact ⟨_, res3_out (((HR2.out.set0 (.slice none 0 0)).set1 _).set2 271) _ _ _, by rw [hd], (((below_step HB0.out HHeld.out).setCell (p := ⟨w.heap.size, 0, none⟩) (Nat.le_refl _) _).setCell (p := ⟨w.heap.size + 1, 0, none⟩) (Nat.le_succ _) _).setCell (p := ⟨w.heap.size + 1 + 1, 0, none⟩) (by show w.heap.size ≤ w.heap.size + 1 + 1; omega) _⟩
end Go.Proofs.YtahdjajdaggmjaaGreatDoor.XPa
