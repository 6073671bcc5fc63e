/-
Walks: formula.Put with its inner function, formula.Dim (written by wip/mkfp.py).
-/
import Derived.Deep.CutRange
import Derived.Test.YtfbcgjkagdbckaaDoorFo2
import Derived.Test.YtfbcgjkagdbckaaDoorWMore
import Derived.Test.YtfbcgjkagdbckaaDoorWLast
import Derived.Test.YtfbcgjkagdbckaaDoorWKept
namespace Go.Proofs.YtfbcgjkagdbckaaDoor
open Go.RowKit H
open Go.Proofs.YtfbcgjkagdbckaaDoorW.PrintWords Go.Proofs.YtfbcgjkagdbckaaDoorW.PrintLast Go.Proofs.YtfbcgjkagdbckaaDoorW.PrintMore

structure SmallU : Prop extends SmallN where
  without : ∀ (x : UInt32) (i : Int) (w : World), Calls Tryd.prog 83 #[.int .u32 (un x), .int .i64 i] w fun e w' => e = .returned (.int .u32 (un (wo x i))) ∧ Below w.heap.size w w'
  has : ∀ (x : UInt32) (i : Int) (w : World), Calls Tryd.prog 84 #[.int .u32 (un x), .int .i64 i] w fun e w' => e = .returned (.bool (hasI x i)) ∧ Below w.heap.size w w'
/-- What holds while one clause is put. -/
structure PutSt (w0 w : World) (i : Int) (r L : List C) (c : C) (Al : Option Addr) (cl : Nat) (Ar : Option Addr) (capr b bi br : Nat) : Prop where
  box : At2 w b c
  ci : w.cell? ⟨bi, 0, none⟩ = some (.int .i64 i)
  cr : w.cell? ⟨br, 0, none⟩ = some (.slice Ar r.length capr)
  rdL : Rd w Al L
  rd : Rd w Ar r
  tab : Tab w
  size : w0.heap.size ≤ w.heap.size
theorem PutSt.below {w0 w w1 : World} {i : Int} {r L : List C} {c : C} {Al : Option Addr} {cl : Nat} {Ar : Option Addr} {capr b bi br : Nat} (h : PutSt w0 w i r L c Al cl Ar capr b bi br) (hb : Below w.heap.size w w1) : PutSt w0 w1 i r L c Al cl Ar capr b bi br :=
  ⟨h.box.below hb, (hb.cell (World.block_lt_of_cell? w _ h.ci)).trans h.ci, (hb.cell (World.block_lt_of_cell? w _ h.cr)).trans h.cr, h.rdL.below hb, h.rd.below hb, h.tab.below hb, Nat.le_trans h.size hb.size⟩
set_option maxRecDepth 100000 in
set_option maxHeartbeats 8000000 in
theorem put_pred (S : SmallU) (i : Int) (r L : List C) (c : C) (v : Value) (Ar : Option Addr) (capr bi br : Nat) (w0 w : World) (ho : Own w w0.heap.size v L) (hsz : w0.heap.size ≤ w.heap.size) (hL : L.length ≤ 64) (hr : r.length ≤ 64)
    (hi : w.cell? ⟨bi, 0, none⟩ = some (.int .i64 i)) (hcr : w.cell? ⟨br, 0, none⟩ = some (.slice Ar r.length capr)) (hRr : Rd w Ar r) (HT : Tab w) :
    Calls Tryd.prog 82 #[v, .agg #[.int .u32 (un c.1), .int .u32 (un c.2)], .pointer (some ⟨bi, 0, none⟩), .pointer (some ⟨br, 0, none⟩)] w fun e w' => ∃ v', e = .returned (.tuple #[v', .int .i64 (putStep i r L c).2]) ∧ Own w' w0.heap.size v' (putStep i r L c).1 ∧ Below w0.heap.size w w' := by
  obtain ⟨Al, cl, rfl, hRL⟩ := ho.slice
  have HB0 : Below w.heap.size w (w.alloc (.cells #[.int .u32 (un c.1), .int .u32 (un c.2)] 60)) := (Below.refl _ _).alloc (Nat.le_refl _) _
  have st0 : PutSt w0 (w.alloc (.cells #[.int .u32 (un c.1), .int .u32 (un c.2)] 60)) i r L c Al cl Ar capr w.heap.size bi br :=
    ⟨⟨World.cell?_alloc_new .., World.cell?_alloc_new ..⟩, (HB0.cell (World.block_lt_of_cell? w _ hi)).trans hi, (HB0.cell (World.block_lt_of_cell? w _ hcr)).trans hcr, hRL.below HB0, hRr.below HB0, HT.below HB0, by simp; omega⟩
  have hh1 := S.has c.1 i
  have hh2 := S.has c.2 i
  have hmA := fun A1 c1 w1 (h0 : Rd w1 A1 [woC c i]) (h1 : Rd w1 Ar r) => form_meet S.toSmallP A1 Ar c1 capr [woC c i] r w1 h0 h1 (by simp; omega) (by simp) (by omega)
  have hno := fun w1 (h1 : Rd w1 Ar r) (h2 : Tab w1) => form_not S.toSmallN Ar capr r w1 h1 (by omega) h2
  have hn64 : Hid ((H.notF r).1.length ≤ 64) := Lib.hid (notF_len r)
  have hjn := fun (G : List C) (hG : G.length ≤ 64) A1 c1 w1 (h0 : Rd w1 Al L) (h1 : Rd w1 A1 G) => form_join S.toSmallP Al A1 cl c1 L G w1 h0 h1 (by omega)
  have hmB := fun (G : List C) (hG : G.length ≤ 64) A1 c1 A2 c2 w1 (h0 : Rd w1 A1 G) (h1 : Rd w1 A2 (H.notF r).1) => form_meet S.toSmallP A1 A2 c1 c2 G (H.notF r).1 w1 h0 h1 (Nat.le_trans (Nat.mul_le_mul hG (show _ ≤ 64 from hn64)) (by decide)) (by omega) (Nat.le_trans (show _ ≤ 64 from hn64) (by decide))
  have HS0 := Lib.hid hsz
  clear ho hi hcr hRr HT hRL hsz
  go_enter Tryd.func82, Tryd.ntmps82
  go_wp2
  refine start_ (n := 11) (S := fun w' => w'.cell? ⟨w.heap.size, 0, none⟩ = some (.int .u32 (un c.1)) ∧ w'.cell? ⟨w.heap.size, 1, none⟩ = some (.int .u32 (un c.2)) ∧ w'.cell? ⟨bi, 0, none⟩ = some (.int .i64 i)) (ds := []) #[false, false, false, false, false, false, false, false, false, false, false] (by kernel_rfl) rfl rfl ⟨st0.box.1, st0.box.2, st0.ci⟩ (fun hHeld => ?_)
  have stD : PutSt w0 (w.alloc (.cells #[.int .u32 (un c.1), .int .u32 (un c.2)] 60)).drew i r L c Al cl Ar capr w.heap.size bi br := st0.below ⟨rfl, rfl, rfl, Nat.le_refl _, fun _ _ => rfl⟩
  have BD : Below w.heap.size w (w.alloc (.cells #[.int .u32 (un c.1), .int .u32 (un c.2)] 60)).drew := below_drew HB0
  generalize (w.alloc (.cells #[.int .u32 (un c.1), .int .u32 (un c.2)] 60)).drew = WD at *
  refine pure_ (i := 0) (N := some 13) (v := ?_) (a' := ?_) #[true, false, false, false, false, false, false, false, false, false, false] rfl rfl (by kernel_rfl) (fun _ _ _ h => h) (Or.inl ⟨by rfl, ?_⟩) ?_ ?_
  rotate_left
  · intro w'
    go_simp
    with_reducible rfl
  rotate_left
  · simp only [Act.put, List.setIfInBounds_toArray, List.set_cons_zero, List.set_cons_succ]
    rfl
  refine pure_ (i := 4) (N := some 17) (v := ?_) (a' := ?_) #[true, false, false, false, true, false, false, false, false, false, false] rfl rfl (by kernel_rfl) (fun _ _ _ h => h) (Or.inl ⟨by rfl, ?_⟩) ?_ ?_
  rotate_left
  · intro w'
    go_simp
    with_reducible rfl
  rotate_left
  · simp only [Act.put, List.setIfInBounds_toArray, List.set_cons_zero, List.set_cons_succ]
    rfl
  refine take_ (i := 1) (N := some 14) (v := ?_) (a' := ?_) #[true, true, false, false, true, false, false, false, false, false, false] rfl rfl (by kernel_rfl) (fun _ _ _ h => h) (Or.inl ⟨by rfl, ?_⟩) hHeld ?_ ?_
  rotate_left
  · rintro w' ⟨s0, s1, s2⟩
    go_simp
    with_reducible rfl
  rotate_left
  · simp only [Act.put, List.setIfInBounds_toArray, List.set_cons_zero, List.set_cons_succ]
    rfl
  refine take_ (i := 2) (N := some 15) (v := ?_) (a' := ?_) #[true, true, true, false, true, false, false, false, false, false, false] rfl rfl (by kernel_rfl) (fun _ _ _ h => h) (Or.inl ⟨by rfl, ?_⟩) hHeld ?_ ?_
  rotate_left
  · rintro w' ⟨s0, s1, s2⟩
    go_simp
    with_reducible rfl
  rotate_left
  · simp only [Act.put, List.setIfInBounds_toArray, List.set_cons_zero, List.set_cons_succ]
    rfl
  refine take_ (i := 5) (N := some 18) (v := ?_) (a' := ?_) #[true, true, true, false, true, true, false, false, false, false, false] rfl rfl (by kernel_rfl) (fun _ _ _ h => h) (Or.inl ⟨by rfl, ?_⟩) hHeld ?_ ?_
  rotate_left
  · rintro w' ⟨s0, s1, s2⟩
    go_simp
    with_reducible rfl
  rotate_left
  · simp only [Act.put, List.setIfInBounds_toArray, List.set_cons_zero, List.set_cons_succ]
    rfl
  refine take_ (i := 6) (N := some 19) (v := ?_) (a' := ?_) #[true, true, true, false, true, true, true, false, false, false, false] rfl rfl (by kernel_rfl) (fun _ _ _ h => h) (Or.inl ⟨by rfl, ?_⟩) hHeld ?_ ?_
  rotate_left
  · rintro w' ⟨s0, s1, s2⟩
    go_simp
    with_reducible rfl
  rotate_left
  · simp only [Act.put, List.setIfInBounds_toArray, List.set_cons_zero, List.set_cons_succ]
    rfl
  refine one_ (i := 3) (N := some 16) #[true, true, true, true, true, true, true, false, false, false, false] rfl rfl (by kernel_rfl) (by decide) (fun K hK => ?_)
  refine goes_ Tryd.func83 (by kernel_rfl) rfl #[.int .u32 (un c.1), .int .i64 i] (by rfl) rfl rfl (by (try simp only [List.map_toArray, List.map_cons, List.map_nil]); first | done | rfl) ?_
  with_reducible refine (S.without c.1 i _).mono ?_
  rintro e w0_ ⟨rfl, hbw0_⟩
  refine ⟨_, rfl, ?_⟩
  have stw0_ := stD.below hbw0_
  have Bw0_ := below_then BD (Below.size BD) hbw0_
  have hH2 := hHeld
  refine hK.out _ _ ⟨stw0_.box.1, stw0_.box.2, stw0_.ci⟩ (fun hHeld => ?_)
  clear hK K hH2
  refine norm_ (a' := ?_) ?_ ?_
  rotate_left
  · show Act.put _ (some 16) _ = _
    simp only [Act.put, List.setIfInBounds_toArray, List.set_cons_zero, List.set_cons_succ]
    rfl
  refine one_ (i := 7) (N := some 20) #[true, true, true, true, true, true, true, true, false, false, false] rfl rfl (by kernel_rfl) (by decide) (fun K hK => ?_)
  refine goes_ Tryd.func83 (by kernel_rfl) rfl #[.int .u32 (un c.2), .int .i64 i] (by rfl) rfl rfl (by (try simp only [List.map_toArray, List.map_cons, List.map_nil]); first | done | rfl) ?_
  with_reducible refine (S.without c.2 i _).mono ?_
  rintro e w1 ⟨rfl, hbw1⟩
  refine ⟨_, rfl, ?_⟩
  have stw1 := stw0_.below hbw1
  have Bw1 := below_then Bw0_ (Below.size Bw0_) hbw1
  have hH2 := hHeld
  refine hK.out _ _ ⟨stw1.box.1, stw1.box.2, stw1.ci⟩ (fun hHeld => ?_)
  clear hK K hH2
  refine norm_ (a' := ?_) ?_ ?_
  rotate_left
  · show Act.put _ (some 20) _ = _
    simp only [Act.put, List.setIfInBounds_toArray, List.set_cons_zero, List.set_cons_succ]
    rfl
  have st1 := stw1
  have B1 := Bw1
  clear stD BD stw0_ Bw0_ hbw0_ hbw1 stw1 Bw1 hHeld
  refine pure_ (i := 8) (N := some 21) (v := ?_) (a' := ?_) #[true, true, true, true, true, true, true, true, true, false, false] rfl rfl (by kernel_rfl) (fun _ _ _ h => h) (Or.inl ⟨by rfl, ?_⟩) ?_ ?_
  rotate_left
  · intro w'
    go_simp
    with_reducible rfl
  rotate_left
  · simp only [Act.put, List.setIfInBounds_toArray, List.set_cons_zero, List.set_cons_succ]
    rfl
  refine one_ (i := 9) (N := some 22) #[true, true, true, true, true, true, true, true, true, true, false] rfl rfl (by kernel_rfl) (by decide) (fun K hK => ?_)
  refine value_ (v := .slice (some ⟨w1.heap.size, 0, none⟩) 1 1) (w1 := (w1.alloc (.cells #[.int .u32 (un (wo c.1 i)), .int .u32 (un (wo c.2 i))] 60))) (by rfl) rfl (by go_simp; try rfl) ?_
  have o8 : Own (w1.alloc (.cells #[.int .u32 (un (wo c.1 i)), .int .u32 (un (wo c.2 i))] 60)) w1.heap.size (.slice (some ⟨w1.heap.size, 0, none⟩) 1 1) [woC c i] := Own.lit (Nat.le_refl _) (woC c i)
  have st2 := st1.below ((Below.refl _ _).alloc (Nat.le_refl _) (.cells #[.int .u32 (un (wo c.1 i)), .int .u32 (un (wo c.2 i))] 60))
  have B2 := B1.alloc (Below.size B1) (.cells #[.int .u32 (un (wo c.1 i)), .int .u32 (un (wo c.2 i))] 60)
  have hs1 := Below.size B1
  generalize (w1.alloc (.cells #[.int .u32 (un (wo c.1 i)), .int .u32 (un (wo c.2 i))] 60)) = w2 at *
  refine hK.out _ _ ⟨st2.box.1, st2.box.2, st2.ci⟩ (fun hHeld => ?_)
  clear hK K
  refine norm_ (a' := ?_) ?_ ?_
  rotate_left
  · show Act.put _ (some 22) _ = _
    simp only [Act.put, List.setIfInBounds_toArray, List.set_cons_zero, List.set_cons_succ]
    rfl
  refine pure_ (i := 10) (N := some 8) (v := ?_) (a' := ?_) #[true, true, true, true, true, true, true, true, true, true, true] rfl rfl (by kernel_rfl) (fun _ _ _ h => h) (Or.inl ⟨by rfl, ?_⟩) ?_ ?_
  rotate_left
  · intro w'
    go_simp
    with_reducible rfl
  rotate_left
  · simp only [Act.put, List.setIfInBounds_toArray, List.set_cons_zero, List.set_cons_succ]
    rfl
  refine done_ (by kernel_rfl) ?_
  clear hHeld st1 B1
  
  -- behind region 1: the clause without the dimension, as a formula of its own
  have hs2 : w0.heap.size ≤ w1.heap.size := Nat.le_trans HS0 hs1
  have ho8 := o8.mono hs2
  clear o8
  obtain ⟨A8, c8, e8, hR8⟩ := ho8.slice
  cases e8
  have q1 := st2.box.1
  have q2 := st2.box.2
  have q3 := st2.ci
  have q4 := st2.cr
  have HO8 := Lib.hid ho8
  have B2' := Lib.hid B2
  clear ho8 B2
  go_upto_if 26 with (go_at_call 84; refine (hh1 _).mono ?_; rintro e w3 ⟨rfl, hb3⟩; have st3 := st2.below hb3; have B3 := below_then B2' (Below.size B2') hb3; have q31 := st3.box.1; have q32 := st3.box.2; have q33 := st3.ci; have q34 := st3.cr)
  go_cut [8, 9, 10] from 13 (fun s8 s9 s10 wx => Own wx w0.heap.size s8 (putA i r c).1 ∧ Hid ((putA i r c).2 = 0) ∧ PutSt w0 wx i r L c Al cl Ar capr w.heap.size bi br ∧ Below w.heap.size w wx)
  case first =>
    clear hh2 hno hjn hmB
    cases h1 : hasI c.1 i
    · have hA : putA i r c = ([woC c i], 0) := by
        unfold putA
        rw [h1, if_neg Bool.false_ne_true]
      go_wp2_with fail
      go_meet
      case rel => exact ⟨by rw [hA]; exact (show Own _ _ _ _ from HO8).below hb3, Lib.hid (by rw [hA]), st3, B3⟩
    · have hA : putA i r c = least (meets [woC c i] r) := by
        unfold putA
        rw [h1, if_pos rfl]
        rfl
      have hm := hmA _ 1 _ (hR8.below hb3) st3.rd
      rw [← hA] at hm
      have HA := Lib.hid hA
      clear hA hmA
      by_cases he : (putA i r c).2 = 0
      · have HE := Lib.hid he
        rw [he] at hm
        clear he
        generalize hG : (putA i r c).1 = G at *
        clear hG HA
        go_wp2_with (go_at_call 65; refine hm.mono ?_; rintro e w4 ⟨v4, rfl, ho4, hb4⟩)
        go_meet
        case rel => exact ⟨ho4.mono st3.size, HE, st3.below hb4, below_then B3 (Below.size B3) hb4⟩
      · have hne : ((putA i r c).2 != 0) = true := by simpa using he
        have hfin : Hid (putStep i r L c = ([], (putA i r c).2)) := Lib.hid (by
          unfold putStep putB
          rw [if_neg he, if_neg he])
        clear HA
        generalize (putA i r c).2 = ev at *
        generalize (putA i r c).1 = G at *
        go_wp2_with (go_at_call 65; refine hm.mono ?_; rintro e w4 ⟨v4, rfl, ho4, hb4⟩)
        go_ret2
        rw [show putStep i r L c = _ from hfin]
        exact ⟨_, rfl, Own.nil _ _, (below_then B3 (Below.size B3) hb4).mono HS0⟩
  case rest =>
    obtain ⟨ho8, hA0, st4, B4⟩ := hcut
    clear hh1 hmA st2 st3 B3 q1 q2 q3 q4 q31 q32 q33 q34 hb3 HO8 hR8 B2'
    obtain ⟨A9, c9, rfl, hR9⟩ := ho8.slice
    have hG64 : Hid ((putA i r c).1.length ≤ 64) := Lib.hid (putA_len i r c)
    have q1 := st4.box.1
    have q2 := st4.box.2
    have q3 := st4.ci
    have q4 := st4.cr
    have HO8 := Lib.hid ho8
    have B4' := Lib.hid B4
    clear ho8 B4
    go_upto_if 40 with (go_at_call 84; refine (hh2 _).mono ?_; rintro e w5 ⟨rfl, hb5⟩; have st5 := st4.below hb5; have B5 := below_then B4' (Below.size B4') hb5; have q51 := st5.box.1; have q52 := st5.box.2; have q53 := st5.ci; have q54 := st5.cr)
    go_cut [8, 11, 12] from 13 (fun s8 s11 s12 wx => Own wx w0.heap.size s8 (putB i r c).1 ∧ Hid ((putB i r c).2 = 0) ∧ PutSt w0 wx i r L c Al cl Ar capr w.heap.size bi br ∧ Below w.heap.size w wx)
    case first =>
      clear hh2 hjn
      cases h2 : hasI c.2 i
      · have hB : putB i r c = putA i r c := by
          unfold putB
          rw [if_pos (show (putA i r c).2 = 0 from hA0), h2, if_neg Bool.false_ne_true]
        go_wp2_with fail
        go_meet
        case rel => exact ⟨by rw [hB]; exact (show Own _ _ _ _ from HO8).below hb5, Lib.hid (by rw [hB]; exact hA0), st5, B5⟩
      · have hB : putB i r c = if (H.notF r).2 = 0 then least (meets (putA i r c).1 (H.notF r).1) else ([], (H.notF r).2) := by
          unfold putB
          rw [if_pos (show (putA i r c).2 = 0 from hA0), h2, if_pos rfl]
          rfl
        have hn := hno w5 st5.rd st5.tab
        by_cases hn0 : (H.notF r).2 = 0
        · rw [if_pos hn0] at hB
          rw [hn0] at hn
          have hm := fun A1 c1 w1 (h1 : Rd w1 A9 (putA i r c).1) (h2 : Rd w1 A1 (H.notF r).1) => hmB (putA i r c).1 hG64 A9 c9 A1 c1 w1 h1 h2
          rw [← hB] at hm
          have HBB := Lib.hid hB
          clear hB hn0 hmB hno
          by_cases he : (putB i r c).2 = 0
          · have HE := Lib.hid he
            rw [he] at hm
            clear he HBB
            generalize (H.notF r).1 = K at *
            generalize (putB i r c).1 = G2 at *
            generalize (putA i r c).1 = G at *
            go_wp2_with (first
              | (go_at_call 72; refine hn.mono ?_; rintro e w6 ⟨v6, rfl, ho6, hb6⟩; obtain ⟨A6, c6, rfl, hR6⟩ := ho6.slice; have st6 := st5.below hb6; have B6 := below_then B5 (Below.size B5) hb6)
              | (go_at_call 65; refine (hm _ _ _ ((hR9.below hb5).below hb6) hR6).mono ?_; rintro e w7 ⟨v7, rfl, ho7, hb7⟩))
            go_meet
            case rel => exact ⟨ho7.mono st6.size, HE, st6.below hb7, below_then B6 (Below.size B6) hb7⟩
          · have hne : ((putB i r c).2 != 0) = true := by simpa using he
            have hfin : Hid (putStep i r L c = ([], (putB i r c).2)) := Lib.hid (by
              unfold putStep
              rw [if_neg he])
            clear HBB
            generalize (H.notF r).1 = K at *
            generalize (putB i r c).2 = ev at *
            generalize (putB i r c).1 = G2 at *
            generalize (putA i r c).1 = G at *
            go_wp2_with (first
              | (go_at_call 72; refine hn.mono ?_; rintro e w6 ⟨v6, rfl, ho6, hb6⟩; obtain ⟨A6, c6, rfl, hR6⟩ := ho6.slice; have st6 := st5.below hb6; have B6 := below_then B5 (Below.size B5) hb6)
              | (go_at_call 65; refine (hm _ _ _ ((hR9.below hb5).below hb6) hR6).mono ?_; rintro e w7 ⟨v7, rfl, ho7, hb7⟩))
            go_ret2
            rw [show putStep i r L c = _ from hfin]
            exact ⟨_, rfl, Own.nil _ _, (below_then B6 (Below.size B6) hb7).mono HS0⟩
        · rw [if_neg hn0] at hB
          have hne : ((H.notF r).2 != 0) = true := by simpa using hn0
          have hfin : Hid (putStep i r L c = ([], (H.notF r).2)) := Lib.hid (by
            unfold putStep
            rw [hB, if_neg hn0])
          clear hB hmB hno
          generalize (H.notF r).2 = ev at *
          generalize (H.notF r).1 = K at *
          go_wp2_with (go_at_call 72; refine hn.mono ?_; rintro e w6 ⟨v6, rfl, ho6, hb6⟩; have B6 := below_then B5 (Below.size B5) hb6)
          go_ret2
          rw [show putStep i r L c = _ from hfin]
          exact ⟨_, rfl, Own.nil _ _, B6.mono HS0⟩
    case rest =>
      obtain ⟨ho8, hB0, st6, B6⟩ := hcut
      clear hh2 hno hmB st4 st5 B5 q1 q2 q3 q4 q51 q52 q53 q54 hb5 HO8 hR9 B4' hG64 hA0
      obtain ⟨A9, c9, rfl, hR9⟩ := ho8.slice
      have hfin : Hid (putStep i r L c = least (L ++ (putB i r c).1)) := Lib.hid (by
        unfold putStep
        rw [if_pos (show (putB i r c).2 = 0 from hB0)]
        rfl)
      have hj := hjn (putB i r c).1 (putB_len i r c) A9 c9 _ st6.rdL hR9
      clear hjn hB0 ho8
      generalize least (L ++ (putB i r c).1) = R at *
      generalize (putB i r c).1 = G at *
      go_wp2_with (go_at_call 63; refine hj.mono ?_; rintro e w7 ⟨v7, rfl, ho7, hb7⟩)
      go_ret2
      rw [show putStep i r L c = _ from hfin]
      exact ⟨_, rfl, ho7.mono st6.size, (below_then B6 (Below.size B6) hb7).mono HS0⟩
end Go.Proofs.YtfbcgjkagdbckaaDoor
