/-
Walk: hypercuberef02.Least, the document's answer, by a sorted insertion (written by wip/mkrl.py).
-/
import Derived.BigQuiet
import Derived.Deep.CutRange
import Derived.Test.YtfbcgjkagdbckaaGreatDoorLst
import Derived.Test.YtfbcgjkagdbckaaGreatDoorApp
import Derived.Test.YtfbcgjkagdbckaaGreatDoorWMore
import Derived.Test.YtfbcgjkagdbckaaGreatDoorWLast
import Derived.Test.YtfbcgjkagdbckaaGreatDoorWKept
namespace Go.Proofs.YtfbcgjkagdbckaaGreatDoor
open Go.RowKit H
open Go.Proofs.YtfbcgjkagdbckaaGreatDoorW.PrintWords Go.Proofs.YtfbcgjkagdbckaaGreatDoorW.PrintLast Go.Proofs.YtfbcgjkagdbckaaGreatDoorW.PrintMore

theorem insAt_le : ∀ (O : List C) (c : C), insAt O c ≤ O.length
  | [], _ => Nat.le_refl _
  | x :: r, c => by
    unfold insAt
    split
    · exact Nat.succ_le_succ (insAt_le r c)
    · exact Nat.zero_le _
theorem insAt_lt : ∀ (O : List C) (c : C) (a : Nat) (h : a < O.length), a ≤ insAt O c → ltC O[a] c = decide (a < insAt O c)
  | [], _, _, h, _ => absurd h (Nat.not_lt_zero _)
  | x :: r, c, 0, h, _ => by
    rw [List.getElem_cons_zero]
    unfold insAt
    cases hx : ltC x c
    · rw [if_neg (by simp), decide_eq_false (by omega)]
    · rw [if_pos rfl, decide_eq_true (by omega)]
  | x :: r, c, a + 1, h, ha => by
    rw [List.getElem_cons_succ]
    unfold insAt at ha ⊢
    cases hx : ltC x c
    · rw [hx, if_neg (by simp)] at ha
      omega
    · rw [hx, if_pos rfl] at ha
      rw [if_pos rfl, insAt_lt r c a (by simpa using h) (by omega)]
      congr 1
      simp
theorem take_at {w : World} {A : Option Addr} {l : List C} (h : Rd w A l) (a : Nat) : Rd w A (l.take a) := by
  refine ⟨by have := h.1; rw [List.length_take]; omega, fun hp => ?_⟩
  rw [List.length_take] at hp
  obtain ⟨b, off, e, hc⟩ := h.2 (by omega)
  refine ⟨b, off, e, fun j hj => ?_⟩
  rw [List.length_take] at hj
  rw [List.getElem_take]
  exact hc j (by omega)
/-- 'xs[m:]' of a row of clauses. -/
theorem cutC (A : Option Addr) (n c m : Nat) (hm : m ≤ n) : ∃ A' : Option Addr, (∀ W : World, (Instr.slice 22 (.slice A n c) (some (.int .i64 (m : Int))) none none).run Tryz.prog W = .ok (.slice A' (n - m) (c - m)) W) ∧
    ∀ (w : World) (l : List C), l.length = n → n ≤ c → Rd w A l → Rd w A' (l.drop m) := by
  obtain ⟨i, hi, hz, hs, hb⟩ := infoC'
  refine ⟨if c = m then A else A.map (·.add (m * 2)), fun W => ?_, fun w l hl hc h => ⟨by have := h.1; rw [List.length_drop]; omega, fun hp => ?_⟩⟩
  · have hel : Tryz.prog.elem 22 = 25 := by simp [Program.elem, Tryz.underlying22]
    have hu : Tryz.prog.underlying 22 = some (.slice (Tryz.prog.elem 22)) := by rw [hel]; exact Tryz.underlying22
    rw [run_slice_l W 22 A n c hu .i64 (m : Int) (Int.natCast_nonneg _) (by omega), hel]
    simp [sizeOf, typeInfo, hi, hs, sliced, Result.andThen]
  · rw [List.length_drop] at hp
    obtain ⟨b, off, rfl, hcell⟩ := h.2 (by omega)
    rw [if_neg (by omega)]
    have ea : (⟨b, off, none⟩ : Addr).add (m * 2) = ⟨b, off + m * 2, none⟩ := by
      unfold Addr.add
      split <;> simp_all
    refine ⟨b, off + m * 2, by rw [Option.map_some, ea], fun j hj => ?_⟩
    rw [List.length_drop] at hj
    obtain ⟨h1, h2⟩ := hcell (m + j) (by omega)
    rw [List.getElem_drop]
    rw [show off + m * 2 + j * 2 = off + (m + j) * 2 by omega]
    exact ⟨h1, h2⟩
/-- What the walk asks of the reference's small functions. -/
structure SmallR : Prop where
  right : ∀ (c : C) (w : World), Calls Tryz.prog 51 #[.agg #[.int .u32 (un c.1), .int .u32 (un c.2)]] w fun e w' => e = .returned (.bool (ok c)) ∧ Below w.heap.size w w'
  needed : ∀ (A : Option Addr) (cap : Nat) (l : List C) (c : C) (w : World), Rd w A l → l.length ≤ cap → l.length ≤ 1000000 → Calls Tryz.prog 54 #[.slice A l.length cap, .agg #[.int .u32 (un c.1), .int .u32 (un c.2)]] w fun e w' => e = .returned (.bool (H.needed l c)) ∧ Below w.heap.size w w'
  less : ∀ (a b : C) (w : World), Calls Tryz.prog 55 #[.agg #[.int .u32 (un a.1), .int .u32 (un a.2)], .agg #[.int .u32 (un b.1), .int .u32 (un b.2)]] w fun e w' => e = .returned (.bool (ltC a b)) ∧ Below w.heap.size w w'

set_option maxRecDepth 100000 in
set_option maxHeartbeats 8000000 in
theorem ref_Least (S : SmallR) (A : Option Addr) (cap : Nat) (l : List C) (w : World) (hR : Rd w A l) (hcp : l.length ≤ cap) (hlen : l.length ≤ 1000000) :
    Calls Tryz.prog 27 #[.slice A l.length cap] w fun e w' => ∃ v, e = .returned (.tuple #[v, .int .i64 (leastR l).2]) ∧ Own w' w.heap.size v (leastR l).1 ∧ Below w.heap.size w w' := by
  go_enter Tryz.func27, Tryz.ntmps27
  go_wp2
  go_loopg [4] (l.length + 1) (fun kq v4 w' => ∃ j : Nat, v4 = .int .i64 (j : Int) ∧ j ≤ l.length ∧ kq + j = l.length + 1 ∧ Hid (∀ d ∈ l.take j, ok d = true) ∧ Below w.heap.size w w')
  case atStart => exact ⟨0, rfl, Nat.zero_le _, rfl, Lib.hid (by simp), Below.refl _ _⟩
  case round =>
    obtain ⟨j, rfl, hj, hk, hok, hb⟩ := hrel
    by_cases hlt : j < l.length
    · obtain ⟨b0, off, rfl, h1, h2⟩ := (hR.below hb).at_ hlt
      have hr := S.right l[j]
      have HB := Lib.hid hb
      have HOK := hok
      have hsz := hb.size
      clear hok hb
      cases hokj : ok l[j]
      · rw [hokj] at hr
        have hle : Hid (leastR l = ([], 2)) := by
          refine Lib.hid ?_
          have : l.all ok = false := by
            rw [List.all_eq_false]
            exact ⟨l[j], List.getElem_mem _, by rw [hokj]; exact Bool.false_ne_true⟩
          unfold leastR
          rw [this]
          rfl
        clear hokj
        go_wp2_with (go_at_call 51; refine (hr _).mono ?_; rintro e w2 ⟨rfl, hb2⟩)
        go_ret2
        rw [hle]
        exact ⟨_, rfl, Own.nil _ _, below_then HB hsz hb2⟩
      · rw [hokj] at hr
        have HO := Lib.hid hokj
        clear hokj
        go_wp2_with (go_at_call 51; refine (hr _).mono ?_; rintro e w2 ⟨rfl, hb2⟩)
        go_roundg (gk - 1)
        case measure => omega
        case rel =>
          refine ⟨j + 1, by simp, by omega, by omega, Lib.hid fun d hd => ?_, below_then HB hsz hb2⟩
          rw [List.take_succ_eq_append_getElem hlt] at hd
          rcases List.mem_append.1 hd with h3 | h3
          · exact HOK d h3
          · rw [List.mem_singleton.1 h3]
            exact HO
    · have ejl : l.take j = l := List.take_of_length_le (by omega)
      have hall : l.all ok = true := by
        rw [List.all_eq_true]
        intro d hd
        exact hok d (by rw [ejl]; exact hd)
      have hleast : Hid (leastR l = if (insAll l l).length ≤ 64 then (insAll l l, 0) else ([], 3)) := by
        refine Lib.hid ?_
        unfold leastR
        rw [hall, if_pos rfl]
      clear hok ejl hall
      go_wp2
      rename World => w1
      have HB1 := Lib.hid hb
      clear hb
      go_loopg [5, 6] (l.length + 1) (fun kq v5 v6 w' => ∃ j : Nat, v6 = .int .i64 (j : Int) ∧ j ≤ l.length ∧ kq + j = l.length + 1 ∧ Own w' w.heap.size v5 (insAll l (l.take j)) ∧ Below w.heap.size w w')
      case atStart => exact ⟨0, rfl, Nat.zero_le _, by omega, Own.nil _ _, HB1⟩
      case round =>
        obtain ⟨j, rfl, hj, hk, ho, hb⟩ := hrel
        by_cases hlt : j < l.length
        · obtain ⟨b0, off, rfl, h1, h2⟩ := (hR.below hb).at_ hlt
          have hn := S.needed (some ⟨b0, off, none⟩) cap l l[j] wr (hR.below hb) hcp hlen
          have hnext := insAll_take_succ l j hlt
          have hOl := length_insAll l (l.take j)
          have hOl2 := List.length_take_le j l
          have HB := Lib.hid hb
          have HO := Lib.hid ho
          have hsz := hb.size
          clear ho hb
          cases hneed : needed l l[j]
          · rw [hneed] at hn hnext
            rw [if_neg (by simp)] at hnext
            have HN := Lib.hid hnext
            clear hneed hnext
            go_wp2_with (go_at_call 54; refine hn.mono ?_; rintro e w2 ⟨rfl, hb2⟩)
            go_roundg (gk - 1)
            case measure => omega
            case rel => exact ⟨j + 1, by simp, by omega, by omega, by rw [HN]; exact HO.below hb2, below_then HB hsz hb2⟩
          · rw [hneed] at hn hnext
            rw [if_pos rfl] at hnext
            have HN := Lib.hid hnext
            clear hneed hnext
            generalize hO : insAll l (l.take j) = O at *
            clear hO
            obtain ⟨AO, cO, rfl, hRO⟩ := (show Own _ _ _ _ from HO).slice
            have hcO : O.length ≤ cO := by
              rcases HO.1.2 with ⟨hv, hn0⟩ | ⟨g, cp, cur, hv, _, _, hcp', _⟩
              · omega
              · cases hv; exact hcp'
            obtain ⟨g0, hg0⟩ : ∃ g0, g0 = gk := ⟨_, rfl⟩
            have HK := Lib.hid hk
            clear hk
            have hOle := insAt_le O l[j]
            go_wp2_with (go_at_call 54; refine hn.mono ?_; rintro e w2 ⟨rfl, hb2⟩)
            have HB2 := Lib.hid (below_then HB hsz hb2)
            have HO2 := Lib.hid ((show Own _ _ _ _ from HO).below hb2)
            have HR2 := Lib.hid ((hR.below HB).below hb2)
            clear hb2 h1 h2 hn hRO
            go_loopg [7] (O.length + 1) (fun kq v7 w' => ∃ a : Nat, v7 = .int .i64 (a : Int) ∧ a ≤ insAt O l[j] ∧ kq + a = O.length + 1 ∧ Below w2.heap.size w2 w')
            case atStart => exact ⟨0, rfl, Nat.zero_le _, rfl, Below.refl _ _⟩
            case round =>
              obtain ⟨a, rfl, hale0, hka, hb3⟩ := hrel
              have HB3 := Lib.hid hb3
              clear hb3
              go_upto_region 12 with fail
              go_cut [47] from 33 to 49 (fun s47 wx => s47 = .bool (decide (a < insAt O l[j])) ∧ Below w2.heap.size w2 wx)
              case first =>
                obtain ⟨b1, o1, hAj, g1, g2⟩ := ((show Rd _ _ _ from HR2).below HB3).at_ hlt
                cases hAj
                by_cases hal : a < O.length
                · obtain ⟨A5, c5, e5, hR5⟩ := ((show Own _ _ _ _ from HO2).below HB3).slice
                  cases e5
                  obtain ⟨b2, o2, rfl, g3, g4⟩ := hR5.at_ hal
                  have hL := S.less O[a] l[j]
                  rw [insAt_lt O l[j] a hal hale0] at hL
                  have hgd : ((a : Nat) : Int) < (O.length : Int) := by omega
                  refine start_ (n := 15) (S := fun w' => w'.cell? ⟨b2, o2 + a * 2, none⟩ = some (.int .u32 (un O[a].1)) ∧ w'.cell? ⟨b2, o2 + a * 2 + 1, none⟩ = some (.int .u32 (un O[a].2)) ∧ w'.cell? ⟨b0, off + j * 2, none⟩ = some (.int .u32 (un l[j].1)) ∧ w'.cell? ⟨b0, off + j * 2 + 1, none⟩ = some (.int .u32 (un l[j].2))) (ds := []) #[false, false, false, false, false, false, false, false, false, false, false, false, false, false, false] (by kernel_rfl) rfl rfl ⟨g3, g4, g1, g2⟩ (fun hHeld => ?_)
                  have HBd : Below w2.heap.size w2 wr.drew := below_drew HB3
                  clear HB3 g1 g2 g3 g4
                  generalize wr.drew = Wd at *
                  refine pure_ (i := 0) (N := some 33) (v := ?_) (a' := ?_) #[true, false, false, false, false, false, false, false, false, false, false, false, false, false, false] rfl rfl (by kernel_rfl) (fun _ _ _ h => h) (Or.inl ⟨by rfl, ?_⟩) ?_ ?_
                  rotate_left
                  · intro w'
                    go_simp
                    with_reducible rfl
                  rotate_left
                  · simp only [Act.put, List.setIfInBounds_toArray, List.set_cons_zero, List.set_cons_succ]
                    rfl
                  refine pure_ (i := 1) (N := some 34) (v := ?_) (a' := ?_) #[true, true, false, false, false, false, false, false, false, false, false, false, false, false, false] rfl rfl (by kernel_rfl) (fun _ _ _ h => h) (Or.inl ⟨by rfl, ?_⟩) ?_ ?_
                  rotate_left
                  · intro w'
                    go_simp
                    with_reducible rfl
                  rotate_left
                  · simp only [Act.put, List.setIfInBounds_toArray, List.set_cons_zero, List.set_cons_succ]
                    rfl
                  refine pure_ (i := 2) (N := some 35) (v := ?_) (a' := ?_) #[true, true, true, false, false, false, false, false, false, false, false, false, false, false, false] rfl rfl (by kernel_rfl) (fun _ _ _ h => h) (Or.inl ⟨by rfl, ?_⟩) ?_ ?_
                  rotate_left
                  · intro w'
                    go_simp
                    with_reducible rfl
                  rotate_left
                  · simp only [Act.put, List.setIfInBounds_toArray, List.set_cons_zero, List.set_cons_succ]
                    rfl
                  refine pure_ (i := 3) (N := some 36) (v := ?_) (a' := ?_) #[true, true, true, true, false, false, false, false, false, false, false, false, false, false, false] rfl rfl (by kernel_rfl) (fun _ _ _ h => h) (Or.inl ⟨by rfl, ?_⟩) ?_ ?_
                  rotate_left
                  · intro w'
                    go_simp
                    with_reducible rfl
                  rotate_left
                  · simp only [Act.put, List.setIfInBounds_toArray, List.set_cons_zero, List.set_cons_succ]
                    rfl
                  refine pure_ (i := 4) (N := some 37) (v := ?_) (a' := ?_) #[true, true, true, true, true, false, false, false, false, false, false, false, false, false, false] rfl rfl (by kernel_rfl) (fun _ _ _ h => h) (Or.inl ⟨by rfl, ?_⟩) ?_ ?_
                  rotate_left
                  · intro w'
                    go_simp
                    with_reducible rfl
                  rotate_left
                  · simp only [Act.put, List.setIfInBounds_toArray, List.set_cons_zero, List.set_cons_succ]
                    rfl
                  refine pure_ (i := 5) (N := some 38) (v := ?_) (a' := ?_) #[true, true, true, true, true, true, false, false, false, false, false, false, false, false, false] rfl rfl (by kernel_rfl) (fun _ _ _ h => h) (Or.inl ⟨by rfl, ?_⟩) ?_ ?_
                  rotate_left
                  · intro w'
                    go_simp
                    with_reducible rfl
                  rotate_left
                  · simp only [Act.put, List.setIfInBounds_toArray, List.set_cons_zero, List.set_cons_succ]
                    rfl
                  refine pure_ (i := 6) (N := some 39) (v := ?_) (a' := ?_) #[true, true, true, true, true, true, true, false, false, false, false, false, false, false, false] rfl rfl (by kernel_rfl) (fun _ _ _ h => h) (Or.inl ⟨by rfl, ?_⟩) ?_ ?_
                  rotate_left
                  · intro w'
                    go_simp
                    with_reducible rfl
                  rotate_left
                  · simp only [Act.put, List.setIfInBounds_toArray, List.set_cons_zero, List.set_cons_succ]
                    rfl
                  refine pure_ (i := 7) (N := some 40) (v := ?_) (a' := ?_) #[true, true, true, true, true, true, true, true, false, false, false, false, false, false, false] rfl rfl (by kernel_rfl) (fun _ _ _ h => h) (Or.inl ⟨by rfl, ?_⟩) ?_ ?_
                  rotate_left
                  · intro w'
                    go_simp
                    with_reducible rfl
                  rotate_left
                  · simp only [Act.put, List.setIfInBounds_toArray, List.set_cons_zero, List.set_cons_succ]
                    rfl
                  refine take_ (i := 8) (N := some 41) (v := ?_) (a' := ?_) #[true, true, true, true, true, true, true, true, true, false, false, false, false, false, false] rfl rfl (by kernel_rfl) (fun _ _ _ h => h) (Or.inl ⟨by rfl, ?_⟩) hHeld ?_ ?_
                  rotate_left
                  · rintro w' ⟨s0, s1, s2, s3⟩
                    go_simp
                    with_reducible rfl
                  rotate_left
                  · simp only [Act.put, List.setIfInBounds_toArray, List.set_cons_zero, List.set_cons_succ]
                    rfl
                  refine pure_ (i := 9) (N := some 42) (v := ?_) (a' := ?_) #[true, true, true, true, true, true, true, true, true, true, false, false, false, false, false] rfl rfl (by kernel_rfl) (fun _ _ _ h => h) (Or.inl ⟨by rfl, ?_⟩) ?_ ?_
                  rotate_left
                  · intro w'
                    go_simp
                    with_reducible rfl
                  rotate_left
                  · simp only [Act.put, List.setIfInBounds_toArray, List.set_cons_zero, List.set_cons_succ]
                    rfl
                  refine pure_ (i := 10) (N := some 43) (v := ?_) (a' := ?_) #[true, true, true, true, true, true, true, true, true, true, true, false, false, false, false] rfl rfl (by kernel_rfl) (fun _ _ _ h => h) (Or.inl ⟨by rfl, ?_⟩) ?_ ?_
                  rotate_left
                  · intro w'
                    go_simp
                    with_reducible rfl
                  rotate_left
                  · simp only [Act.put, List.setIfInBounds_toArray, List.set_cons_zero, List.set_cons_succ]
                    rfl
                  refine pure_ (i := 11) (N := some 44) (v := ?_) (a' := ?_) #[true, true, true, true, true, true, true, true, true, true, true, true, false, false, false] rfl rfl (by kernel_rfl) (fun _ _ _ h => h) (Or.inl ⟨by rfl, ?_⟩) ?_ ?_
                  rotate_left
                  · intro w'
                    go_simp
                    with_reducible rfl
                  rotate_left
                  · simp only [Act.put, List.setIfInBounds_toArray, List.set_cons_zero, List.set_cons_succ]
                    rfl
                  refine take_ (i := 12) (N := some 45) (v := ?_) (a' := ?_) #[true, true, true, true, true, true, true, true, true, true, true, true, true, false, false] rfl rfl (by kernel_rfl) (fun _ _ _ h => h) (Or.inl ⟨by rfl, ?_⟩) hHeld ?_ ?_
                  rotate_left
                  · rintro w' ⟨s0, s1, s2, s3⟩
                    go_simp
                    with_reducible rfl
                  rotate_left
                  · simp only [Act.put, List.setIfInBounds_toArray, List.set_cons_zero, List.set_cons_succ]
                    rfl
                  refine one_ (i := 13) (N := some 46) #[true, true, true, true, true, true, true, true, true, true, true, true, true, true, false] rfl rfl (by kernel_rfl) (by decide) (fun K hK => ?_)
                  refine goes_ Tryz.func55 (by kernel_rfl) rfl #[.agg #[.int .u32 (un O[a].1), .int .u32 (un O[a].2)], .agg #[.int .u32 (un l[j].1), .int .u32 (un l[j].2)]] (by rfl) rfl rfl (by (try simp only [List.map_toArray, List.map_cons, List.map_nil]); first | done | rfl) ?_
                  with_reducible refine (hL _).mono ?_
                  rintro e W3 ⟨rfl, hb⟩
                  refine ⟨_, rfl, ?_⟩
                  have HBe := below_then HBd HBd.size hb
                  have hH2 := hHeld
                  refine hK.out _ _ ⟨pw_cell_below hb hHeld.1, pw_cell_below hb hHeld.2.1, pw_cell_below hb hHeld.2.2.1, pw_cell_below hb hHeld.2.2.2⟩ (fun hHeld => ?_)
                  clear hK K hH2
                  refine norm_ (a' := ?_) ?_ ?_
                  rotate_left
                  · show Act.put _ (some 46) _ = _
                    simp only [Act.put, List.setIfInBounds_toArray, List.set_cons_zero, List.set_cons_succ]
                    rfl
                  refine pure_ (i := 14) (N := some 47) (v := ?_) (a' := ?_) #[true, true, true, true, true, true, true, true, true, true, true, true, true, true, true] rfl rfl (by kernel_rfl) (fun _ _ _ h => h) (Or.inl ⟨by rfl, ?_⟩) ?_ ?_
                  rotate_left
                  · intro w'
                    go_simp
                    with_reducible rfl
                  rotate_left
                  · simp only [Act.put, List.setIfInBounds_toArray, List.set_cons_zero, List.set_cons_succ]
                    rfl
                  refine done_ (by kernel_rfl) ?_
                  go_wp2_with fail
                  go_meet
                  case rel => exact ⟨rfl, HBe⟩
                · have hgd : decide (((a : Nat) : Int) < (O.length : Int)) = false := decide_eq_false (by omega)
                  have hgd2 : ¬ ((a : Nat) : Int) < (O.length : Int) := by omega
                  go_quiet (fail)
                  go_wp2_with fail
                  go_meet
                  case rel => exact ⟨by rw [decide_eq_false (by omega)], pw_below_drewN HB3 _⟩
              case rest =>
                obtain ⟨rfl, hb4⟩ := hcut
                clear HB3
                have HB4 := Lib.hid hb4
                clear hb4
                by_cases hai : a < insAt O l[j]
                · have hbo : decide (a < insAt O l[j]) = true := decide_eq_true hai
                  rw [hbo]
                  go_wp2_with fail
                  go_roundg (gk - 1)
                  case measure => omega
                  case rel => exact ⟨a + 1, by simp, by omega, by omega, HB4⟩
                · have hbo : decide (a < insAt O l[j]) = false := decide_eq_false hai
                  rw [hbo]
                  have ha : a = insAt O l[j] := by omega
                  have hale : a ≤ O.length := by omega
                  have HA := Lib.hid ha
                  clear hai ha hale0 hka hbo
                  go_upto_region 14 with fail
                  go_cut [64] from 20 to 79 (fun s64 wx => s64 = .bool (!decide (O[a]? = some l[j])) ∧ Below w2.heap.size w2 wx)
                  case first =>
                    obtain ⟨b1, o1, hAj, g1, g2⟩ := ((show Rd _ _ _ from HR2).below HB4).at_ hlt
                    cases hAj
                    by_cases hal : a < O.length
                    · obtain ⟨A5, c5, e5, hR5⟩ := ((show Own _ _ _ _ from HO2).below HB4).slice
                      cases e5
                      obtain ⟨b2, o2, rfl, g3, g4⟩ := hR5.at_ hal
                      have hq := fun w => eqCn O[a] l[j] w
                      have hgd : decide (((a : Nat) : Int) = (O.length : Int)) = false := decide_eq_false (by omega)
                      have hgd2 : ¬ ((a : Nat) : Int) = (O.length : Int) := by omega
                      have hgd3 : ((a : Nat) : Int) < (O.length : Int) := by omega
                      have hgd5 : (((a : Nat) : Int) == (O.length : Int)) = false := by simpa using hgd2
                      have hrel64 : (!decide (O[a]? = some l[j])) = !decide (O[a] = l[j]) := by rw [List.getElem?_eq_getElem hal]; simp
                      have HR64 := Lib.hid hrel64
                      clear hrel64
                      go_quiet (fail)
                      go_wp2_with fail
                      go_meet
                      case rel => exact ⟨by rw [show (!decide (O[a]? = some l[j])) = _ from HR64]; first | done | rfl | (rw [hgd5, Bool.false_or]), pw_below_drewN HB4 _⟩
                    · have hgd : decide (((a : Nat) : Int) = (O.length : Int)) = true := decide_eq_true (by omega)
                      have hgd2 : ((a : Nat) : Int) = (O.length : Int) := by omega
                      have hn64 : Hid ((!decide (O[a]? = some l[j])) = true) := Lib.hid (by rw [List.getElem?_eq_none (by omega)]; simp)
                      go_quiet (fail)
                      go_wp2_with fail
                      go_meet
                      case rel => exact ⟨by rw [show (!decide (O[a]? = some l[j])) = true from hn64], pw_below_drewN HB4 _⟩
                  case rest =>
                    obtain ⟨rfl, hb5⟩ := hcut
                    clear HB4
                    have HB5 := Lib.hid hb5
                    clear hb5
                    by_cases hne : O[a]? = some l[j]
                    · have hbo : (!decide (O[a]? = some l[j])) = false := by rw [decide_eq_true hne]; rfl
                      rw [hbo]
                      have hins : Hid (ins O l[j] = O) := Lib.hid (by unfold ins; rw [← (show a = _ from HA), if_pos hne])
                      clear hbo hne
                      go_wp2_with fail
                      go_roundg (g0 - 1)
                      case measure => have := (show _ = _ from HK); omega
                      case rel => exact ⟨j + 1, by simp, by omega, by have := (show _ = _ from HK); omega, by rw [HN, hins]; exact (show Own _ _ _ _ from HO2).below HB5, below_then HB2 (Below.size HB2) HB5⟩
                    · have hbo : (!decide (O[a]? = some l[j])) = true := by rw [decide_eq_false hne]; rfl
                      rw [hbo]
                      have HNE := Lib.hid hne
                      clear hbo hne
                      go_upto_region 15 with fail
                      have hlenO : O.length ≤ 1000000 := by omega
                      obtain ⟨b1, o1, hAj, e1, e2⟩ := ((show Rd _ _ _ from HR2).below HB5).at_ hlt
                      cases hAj
                      have ho5 := (show Own _ _ _ _ from HO2).below HB5
                      have hb6 := below_then HB2 (Below.size HB2) HB5
                      obtain ⟨A5, c5, e5, hR5⟩ := ho5.slice
                      cases e5
                      have hRt := take_at hR5 a
                      obtain ⟨A2, hcut2, hdrop⟩ := cutC AO O.length cO a hale
                      have hR2 := hdrop _ O rfl hcO hR5
                      have hgd3 : ((a : Nat) : Int) ≤ (O.length : Int) := by omega
                      have hgd4 : ((a : Nat) : Int) ≤ (cO : Int) := by omega
                      clear hdrop hR5
                      refine start_ (n := 16) (S := fun w' => w'.cell? ⟨b0, off + j * 2, none⟩ = some (.int .u32 (un l[j].1)) ∧ w'.cell? ⟨b0, off + j * 2 + 1, none⟩ = some (.int .u32 (un l[j].2))) (ds := []) #[false, false, false, false, false, false, false, false, false, false, false, false, false, false, false, false] (by kernel_rfl) rfl rfl ⟨e1, e2⟩ (fun hHeld => ?_)
                      have hHeld0 := hHeld
                      have hRtd : Rd wc.drew AO (O.take a) := hRt
                      have hR2d : Rd wc.drew A2 (O.drop a) := hR2
                      have hb6d : Below w.heap.size w wc.drew := below_drew hb6
                      clear hRt hR2 hb6 ho5
                      generalize wc.drew = Wd at *
                      refine pure_ (i := 1) (N := some 66) (v := ?_) (a' := ?_) #[false, true, false, false, false, false, false, false, false, false, false, false, false, false, false, false] rfl rfl (by kernel_rfl) (fun _ _ _ h => h) (Or.inl ⟨by rfl, ?_⟩) ?_ ?_
                      rotate_left
                      · intro w'
                        go_simp
                        with_reducible rfl
                      rotate_left
                      · simp only [Act.put, List.setIfInBounds_toArray, List.set_cons_zero, List.set_cons_succ]
                        rfl
                      refine pure_ (i := 2) (N := some 67) (v := ?_) (a' := ?_) #[false, true, true, false, false, false, false, false, false, false, false, false, false, false, false, false] rfl rfl (by kernel_rfl) (fun _ _ _ h => h) (Or.inl ⟨by rfl, ?_⟩) ?_ ?_
                      rotate_left
                      · intro w'
                        go_simp
                        with_reducible rfl
                      rotate_left
                      · simp only [Act.put, List.setIfInBounds_toArray, List.set_cons_zero, List.set_cons_succ]
                        rfl
                      refine pure_ (i := 3) (N := some 68) (v := ?_) (a' := ?_) #[false, true, true, true, false, false, false, false, false, false, false, false, false, false, false, false] rfl rfl (by kernel_rfl) (fun _ _ _ h => h) (Or.inl ⟨by rfl, ?_⟩) ?_ ?_
                      rotate_left
                      · intro w'
                        go_simp
                        with_reducible rfl
                      rotate_left
                      · simp only [Act.put, List.setIfInBounds_toArray, List.set_cons_zero, List.set_cons_succ]
                        rfl
                      refine pure_ (i := 5) (N := some 70) (v := ?_) (a' := ?_) #[false, true, true, true, false, true, false, false, false, false, false, false, false, false, false, false] rfl rfl (by kernel_rfl) (fun _ _ _ h => h) (Or.inl ⟨by rfl, ?_⟩) ?_ ?_
                      rotate_left
                      · intro w'
                        go_simp
                        with_reducible rfl
                      rotate_left
                      · simp only [Act.put, List.setIfInBounds_toArray, List.set_cons_zero, List.set_cons_succ]
                        rfl
                      refine pure_ (i := 6) (N := some 71) (v := ?_) (a' := ?_) #[false, true, true, true, false, true, true, false, false, false, false, false, false, false, false, false] rfl rfl (by kernel_rfl) (fun _ _ _ h => h) (Or.inl ⟨by rfl, ?_⟩) ?_ ?_
                      rotate_left
                      · intro w'
                        go_simp
                        with_reducible rfl
                      rotate_left
                      · simp only [Act.put, List.setIfInBounds_toArray, List.set_cons_zero, List.set_cons_succ]
                        rfl
                      refine pure_ (i := 7) (N := some 72) (v := ?_) (a' := ?_) #[false, true, true, true, false, true, true, true, false, false, false, false, false, false, false, false] rfl rfl (by kernel_rfl) (fun _ _ _ h => h) (Or.inl ⟨by rfl, ?_⟩) ?_ ?_
                      rotate_left
                      · intro w'
                        go_simp
                        with_reducible rfl
                      rotate_left
                      · simp only [Act.put, List.setIfInBounds_toArray, List.set_cons_zero, List.set_cons_succ]
                        rfl
                      refine take_ (i := 8) (N := some 73) (v := ?_) (a' := ?_) #[false, true, true, true, false, true, true, true, true, false, false, false, false, false, false, false] rfl rfl (by kernel_rfl) (fun _ _ _ h => h) (Or.inl ⟨by rfl, ?_⟩) hHeld ?_ ?_
                      rotate_left
                      · rintro w' ⟨s0, s1⟩
                        go_simp
                        with_reducible rfl
                      rotate_left
                      · simp only [Act.put, List.setIfInBounds_toArray, List.set_cons_zero, List.set_cons_succ]
                        rfl
                      refine pure_ (i := 11) (N := some 76) (v := ?_) (a' := ?_) #[false, true, true, true, false, true, true, true, true, false, false, true, false, false, false, false] rfl rfl (by kernel_rfl) (fun _ _ _ h => h) (Or.inl ⟨by rfl, ?_⟩) ?_ ?_
                      rotate_left
                      · intro w'
                        go_simp
                        with_reducible rfl
                      rotate_left
                      · simp only [Act.put, List.setIfInBounds_toArray, List.set_cons_zero, List.set_cons_succ]
                        rfl
                      refine pure_ (i := 12) (N := some 77) (v := ?_) (a' := ?_) #[false, true, true, true, false, true, true, true, true, false, false, true, true, false, false, false] rfl rfl (by kernel_rfl) (fun _ _ _ h => h) (Or.inl ⟨by rfl, ?_⟩) ?_ ?_
                      rotate_left
                      · intro w'
                        go_simp
                        with_reducible rfl
                      rotate_left
                      · simp only [Act.put, List.setIfInBounds_toArray, List.set_cons_zero, List.set_cons_succ]
                        rfl
                      refine pure_ (i := 13) (N := some 78) (v := ?_) (a' := ?_) #[false, true, true, true, false, true, true, true, true, false, false, true, true, true, false, false] rfl rfl (by kernel_rfl) (fun _ _ _ h => h) (Or.inl ⟨by rfl, ?_⟩) ?_ ?_
                      rotate_left
                      · intro w'
                        go_simp
                        with_reducible rfl
                      rotate_left
                      · simp only [Act.put, List.setIfInBounds_toArray, List.set_cons_zero, List.set_cons_succ]
                        rfl
                      refine join_ (σ := Value × Value × Value) 3 #[true, true, true, true, true, true, true, true, true, true, false, true, true, true, false, false] (fun s => [(65, s.1), (69, s.2.1), (74, s.2.2)]) (fun s w' => Own w' Wd.heap.size s.2.1 (O.take a) ∧ Own w' Wd.heap.size s.2.2 [l[j]] ∧ Below Wd.heap.size Wd w') ?_ ?_
                      · rintro ⟨v65, v69, v74⟩ w1 ⟨o69, o74, bw1⟩
                        obtain ⟨A74, c74, rfl, R74⟩ := o74.slice
                        refine norm_ (a' := ?_) ?_ ?_
                        rotate_left
                        · simp only [putAll, Act.put, List.setIfInBounds_toArray, List.set_cons_zero, List.set_cons_succ]
                          rfl
                        refine one_ (i := 10) (N := some 75) #[true, true, true, true, true, true, true, true, true, true, true, true, true, true, false, false] rfl rfl (by kernel_rfl) (by decide) (fun K hK => ?_)
                        rw [if_pos (by rfl)]
                        refine wp_append_rd (.tmp 69) (.tmp 74) rfl rfl o69 rfl R74 (by simp; omega) bw1.size ?_
                        intro v75 w2 o75 bw2 _
                        have bw12 := bw1.trans bw2
                        have hH2 := hHeld
                        refine hK.out _ _ ⟨pw_cell_below bw12 hHeld0.1, pw_cell_below bw12 hHeld0.2⟩ (fun hHeld => ?_)
                        clear hK K hH2
                        refine norm_ (a' := ?_) ?_ ?_
                        rotate_left
                        · simp only [Act.put, List.setIfInBounds_toArray]
                          rfl
                        refine one_ (i := 14) (N := some 79) #[true, true, true, true, true, true, true, true, true, true, true, true, true, true, true, false] rfl rfl (by kernel_rfl) (by decide) (fun K hK => ?_)
                        rw [if_pos (by rfl)]
                        refine wp_append_rd (.tmp 75) (.tmp 78) rfl rfl o75 (l := O.drop a) (A := A2) (cap := cO - a) (by rw [List.length_drop]; rfl) (hR2d.below bw12) (by simp; omega) bw12.size ?_
                        intro v79 w3 o79 bw3 _
                        have bw13 := bw12.trans bw3
                        have hH2 := hHeld
                        refine hK.out _ _ ⟨pw_cell_below bw13 hHeld0.1, pw_cell_below bw13 hHeld0.2⟩ (fun hHeld => ?_)
                        clear hK K hH2
                        refine norm_ (a' := ?_) ?_ ?_
                        rotate_left
                        · simp only [Act.put]
                          rfl
                        refine pure_ (i := 15) (N := some 5) (v := ?_) (a' := ?_) #[true, true, true, true, true, true, true, true, true, true, true, true, true, true, true, true] rfl rfl (by kernel_rfl) (fun _ _ _ h => h) (Or.inl ⟨by rfl, ?_⟩) ?_ ?_
                        rotate_left
                        · intro w'
                          go_simp
                          with_reducible rfl
                        rotate_left
                        · simp only [Act.put]
                          rfl
                        refine done_ (by kernel_rfl) ?_
                        have hown3 : Own w3 Wd.heap.size v79 (ins O l[j]) := by
                          unfold ins
                          rw [← (show a = _ from HA), if_neg (show ¬ _ from HNE)]
                          rw [List.append_assoc] at o79
                          exact o79
                        go_wp2_with fail
                        go_roundg (g0 - 1)
                        case measure => have := (show _ = _ from HK); omega
                        case rel => exact ⟨j + 1, by simp, by omega, by have := (show _ = _ from HK); omega, by rw [HN]; exact hown3.mono hb6d.size, below_then hb6d hb6d.size bw13⟩
                      · intro hJ
                        refine two_ (i := 0) (j := 9) (Ni := some 65) (Nj := some 74) #[true, true, true, true, false, true, true, true, true, false, false, true, true, true, false, false] #[false, true, true, true, false, true, true, true, true, true, false, true, true, true, false, false] rfl rfl rfl rfl (by kernel_rfl) (by decide) (by decide) (fun K hK => ?_) (fun K hK => ?_)
                        · skip
                          refine value_ (v := .slice (some ⟨(Wd).heap.size, 0, none⟩) 0 0) (w1 := (Wd).alloc (.cells #[] 25)) (by rfl) rfl (by go_simp; try rfl) ?_
                          have ba : Below Wd.heap.size Wd (Wd.alloc (.cells #[] 25)) := (Below.refl _ _).alloc (Nat.le_refl _) _
                          have oa : Own (Wd.alloc (.cells #[] 25)) Wd.heap.size (.slice (some ⟨Wd.heap.size, 0, none⟩) 0 0) [] := Own.made (Nat.le_refl _)
                          have hH2 := hHeld
                          refine hK.out _ _ ⟨pw_cell_below ba hHeld0.1, pw_cell_below ba hHeld0.2⟩ (fun hHeld => ?_)
                          clear hK K hH2
                          refine norm_ (a' := ?_) ?_ ?_
                          rotate_left
                          · simp only [Act.put, List.setIfInBounds_toArray, List.set_cons_zero, List.set_cons_succ]
                            rfl
                          refine two_ (i := 4) (j := 9) (Ni := some 69) (Nj := some 74) #[true, true, true, true, true, true, true, true, true, false, false, true, true, true, false, false] #[true, true, true, true, false, true, true, true, true, true, false, true, true, true, false, false] rfl rfl rfl rfl (by kernel_rfl) (by decide) (by decide) (fun K hK => ?_) (fun K hK => ?_)
                          · rw [if_pos (by rfl)]
                            refine wp_append_rd (.tmp 65) (.tmp 68) rfl (v := .slice (some ⟨Wd.heap.size, 0, none⟩) 0 0) rfl oa (l := O.take a) (A := AO) (cap := cO) (by rw [List.length_take, Nat.min_eq_left hale]; rfl) (hRtd.below ba) (by simp; omega) ba.size ?_
                            intro v69 w1 o69 bw1 _
                            have bb := ba.trans bw1
                            rw [List.nil_append] at o69
                            have hH2 := hHeld
                            refine hK.out _ _ ⟨pw_cell_below bb hHeld0.1, pw_cell_below bb hHeld0.2⟩ (fun hHeld => ?_)
                            clear hK K hH2
                            refine norm_ (a' := ?_) ?_ ?_
                            rotate_left
                            · simp only [Act.put, List.setIfInBounds_toArray]
                              rfl
                            refine one_ (i := 9) (N := some 74) #[true, true, true, true, true, true, true, true, true, true, false, true, true, true, false, false] rfl rfl (by kernel_rfl) (by decide) (fun K hK => ?_)
                            refine value_ (v := .slice (some ⟨(w1).heap.size, 0, none⟩) 1 1) (w1 := (w1).alloc (.cells #[.int .u32 (un l[j].1), .int .u32 (un l[j].2)] 25)) (by rfl) rfl (by go_simp; try rfl) ?_
                            have bd := bb.alloc bb.size (.cells #[.int .u32 (un l[j].1), .int .u32 (un l[j].2)] 25)
                            have hH2 := hHeld
                            refine hK.out _ _ ⟨pw_cell_below bd hHeld0.1, pw_cell_below bd hHeld0.2⟩ (fun hHeld => ?_)
                            clear hK K hH2
                            refine norm_ (a' := ?_) ?_ ?_
                            rotate_left
                            · simp only [Act.put]
                              rfl
                            exact norm_ (by first | (simp only [putAll, Act.put, List.setIfInBounds_toArray, List.set_cons_zero, List.set_cons_succ]; done) | (simp only [putAll, Act.put, List.setIfInBounds_toArray, List.set_cons_zero, List.set_cons_succ]; rfl)) (hJ (_, _, _) _ ⟨⟨o69.1.alloc _, o69.2⟩, Own.lit bb.size l[j], bd⟩)
                          · skip
                            refine value_ (v := .slice (some ⟨(Wd.alloc (.cells #[] 25)).heap.size, 0, none⟩) 1 1) (w1 := (Wd.alloc (.cells #[] 25)).alloc (.cells #[.int .u32 (un l[j].1), .int .u32 (un l[j].2)] 25)) (by rfl) rfl (by go_simp; try rfl) ?_
                            have bb := ba.alloc ba.size (.cells #[.int .u32 (un l[j].1), .int .u32 (un l[j].2)] 25)
                            have ob : Own ((Wd.alloc (.cells #[] 25)).alloc (.cells #[.int .u32 (un l[j].1), .int .u32 (un l[j].2)] 25)) Wd.heap.size (.slice (some ⟨Wd.heap.size, 0, none⟩) 0 0) [] := ⟨oa.1.alloc _, oa.2⟩
                            have oc : Own ((Wd.alloc (.cells #[] 25)).alloc (.cells #[.int .u32 (un l[j].1), .int .u32 (un l[j].2)] 25)) Wd.heap.size (.slice (some ⟨(Wd.alloc (.cells #[] 25)).heap.size, 0, none⟩) 1 1) [l[j]] := Own.lit ba.size l[j]
                            have hH2 := hHeld
                            refine hK.out _ _ ⟨pw_cell_below bb hHeld0.1, pw_cell_below bb hHeld0.2⟩ (fun hHeld => ?_)
                            clear hK K hH2
                            refine norm_ (a' := ?_) ?_ ?_
                            rotate_left
                            · simp only [Act.put, List.setIfInBounds_toArray, List.set_cons_zero, List.set_cons_succ]
                              rfl
                            refine one_ (i := 4) (N := some 69) #[true, true, true, true, true, true, true, true, true, true, false, true, true, true, false, false] rfl rfl (by kernel_rfl) (by decide) (fun K hK => ?_)
                            rw [if_pos (by rfl)]
                            refine wp_append_rd (.tmp 65) (.tmp 68) rfl (v := .slice (some ⟨Wd.heap.size, 0, none⟩) 0 0) rfl ob (l := O.take a) (A := AO) (cap := cO) (by rw [List.length_take, Nat.min_eq_left hale]; rfl) (hRtd.below bb) (by simp; omega) bb.size ?_
                            intro v69 w1 o69 bw1 hg
                            have bd := bb.trans bw1
                            rw [List.nil_append] at o69
                            have oc2 := oc.kept hg (.inr (by simp [Value.ownBlock]))
                            have hH2 := hHeld
                            refine hK.out _ _ ⟨pw_cell_below bd hHeld0.1, pw_cell_below bd hHeld0.2⟩ (fun hHeld => ?_)
                            clear hK K hH2
                            refine norm_ (a' := ?_) ?_ ?_
                            rotate_left
                            · simp only [Act.put, List.setIfInBounds_toArray]
                              rfl
                            exact norm_ (by first | (simp only [putAll, Act.put, List.setIfInBounds_toArray, List.set_cons_zero, List.set_cons_succ]; done) | (simp only [putAll, Act.put, List.setIfInBounds_toArray, List.set_cons_zero, List.set_cons_succ]; rfl)) (hJ (_, _, _) _ ⟨o69, oc2, bd⟩)
                        · skip
                          refine value_ (v := .slice (some ⟨(Wd).heap.size, 0, none⟩) 1 1) (w1 := (Wd).alloc (.cells #[.int .u32 (un l[j].1), .int .u32 (un l[j].2)] 25)) (by rfl) rfl (by go_simp; try rfl) ?_
                          have ba : Below Wd.heap.size Wd (Wd.alloc (.cells #[.int .u32 (un l[j].1), .int .u32 (un l[j].2)] 25)) := (Below.refl _ _).alloc (Nat.le_refl _) _
                          have oa : Own (Wd.alloc (.cells #[.int .u32 (un l[j].1), .int .u32 (un l[j].2)] 25)) Wd.heap.size (.slice (some ⟨Wd.heap.size, 0, none⟩) 1 1) [l[j]] := Own.lit (Nat.le_refl _) l[j]
                          have hH2 := hHeld
                          refine hK.out _ _ ⟨pw_cell_below ba hHeld0.1, pw_cell_below ba hHeld0.2⟩ (fun hHeld => ?_)
                          clear hK K hH2
                          refine norm_ (a' := ?_) ?_ ?_
                          rotate_left
                          · simp only [Act.put, List.setIfInBounds_toArray, List.set_cons_zero, List.set_cons_succ]
                            rfl
                          refine one_ (i := 0) (N := some 65) #[true, true, true, true, false, true, true, true, true, true, false, true, true, true, false, false] rfl rfl (by kernel_rfl) (by decide) (fun K hK => ?_)
                          refine value_ (v := .slice (some ⟨(Wd.alloc (.cells #[.int .u32 (un l[j].1), .int .u32 (un l[j].2)] 25)).heap.size, 0, none⟩) 0 0) (w1 := (Wd.alloc (.cells #[.int .u32 (un l[j].1), .int .u32 (un l[j].2)] 25)).alloc (.cells #[] 25)) (by rfl) rfl (by go_simp; try rfl) ?_
                          have bb := ba.alloc ba.size (.cells #[] 25)
                          have ob : Own ((Wd.alloc (.cells #[.int .u32 (un l[j].1), .int .u32 (un l[j].2)] 25)).alloc (.cells #[] 25)) Wd.heap.size (.slice (some ⟨(Wd.alloc (.cells #[.int .u32 (un l[j].1), .int .u32 (un l[j].2)] 25)).heap.size, 0, none⟩) 0 0) [] := Own.made ba.size
                          have oc : Own ((Wd.alloc (.cells #[.int .u32 (un l[j].1), .int .u32 (un l[j].2)] 25)).alloc (.cells #[] 25)) Wd.heap.size (.slice (some ⟨Wd.heap.size, 0, none⟩) 1 1) [l[j]] := ⟨oa.1.alloc _, oa.2⟩
                          have hH2 := hHeld
                          refine hK.out _ _ ⟨pw_cell_below bb hHeld0.1, pw_cell_below bb hHeld0.2⟩ (fun hHeld => ?_)
                          clear hK K hH2
                          refine norm_ (a' := ?_) ?_ ?_
                          rotate_left
                          · simp only [Act.put, List.setIfInBounds_toArray, List.set_cons_zero, List.set_cons_succ]
                            rfl
                          refine one_ (i := 4) (N := some 69) #[true, true, true, true, true, true, true, true, true, true, false, true, true, true, false, false] rfl rfl (by kernel_rfl) (by decide) (fun K hK => ?_)
                          rw [if_pos (by rfl)]
                          refine wp_append_rd (.tmp 65) (.tmp 68) rfl (v := .slice (some ⟨(Wd.alloc (.cells #[.int .u32 (un l[j].1), .int .u32 (un l[j].2)] 25)).heap.size, 0, none⟩) 0 0) rfl ob (l := O.take a) (A := AO) (cap := cO) (by rw [List.length_take, Nat.min_eq_left hale]; rfl) (hRtd.below bb) (by simp; omega) bb.size ?_
                          intro v69 w1 o69 bw1 hg
                          have bd := bb.trans bw1
                          rw [List.nil_append] at o69
                          have oc2 := oc.kept hg (.inr (by simp [Value.ownBlock]))
                          have hH2 := hHeld
                          refine hK.out _ _ ⟨pw_cell_below bd hHeld0.1, pw_cell_below bd hHeld0.2⟩ (fun hHeld => ?_)
                          clear hK K hH2
                          refine norm_ (a' := ?_) ?_ ?_
                          rotate_left
                          · simp only [Act.put, List.setIfInBounds_toArray]
                            rfl
                          exact norm_ (by first | (simp only [putAll, Act.put, List.setIfInBounds_toArray, List.set_cons_zero, List.set_cons_succ]; done) | (simp only [putAll, Act.put, List.setIfInBounds_toArray, List.set_cons_zero, List.set_cons_succ]; rfl)) (hJ (_, _, _) _ ⟨o69, oc2, bd⟩)
        · have e : l.take j = l := List.take_of_length_le (by omega)
          rw [e] at ho
          obtain ⟨A9, c9, rfl, hR9⟩ := ho.slice
          have HO := Lib.hid ho
          clear ho
          generalize insAll l l = K at *
          by_cases hbig : K.length ≤ 64
          · have HBG := Lib.hid hbig
            go_wp2
            go_ret2
            rw [show leastR l = _ from hleast, if_pos (show K.length ≤ 64 from HBG)]
            exact ⟨_, rfl, HO, hb⟩
          · have HBG := Lib.hid hbig
            go_wp2
            go_ret2
            rw [show leastR l = _ from hleast, if_neg (show ¬ K.length ≤ 64 from HBG)]
            exact ⟨_, rfl, Own.nil _ _, hb⟩
end Go.Proofs.YtfbcgjkagdbckaaGreatDoor
