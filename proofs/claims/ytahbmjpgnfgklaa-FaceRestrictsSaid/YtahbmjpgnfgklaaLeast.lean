/-
Walk: clause.Least.
-/
import Derived.Test.YtahbmjpgnfgklaaInv
namespace Go.Proofs.Ytahbmjpgnfgklaa
open Go.RowKit H

set_option maxRecDepth 100000 in
set_option maxHeartbeats 4000000 in
theorem clause_Least (S : Small) (A : Option Addr) (cap : Nat) (l : List C) (w : World) (hR : Rd w A l) (hlen : l.length ≤ 1000000) :
    Calls Try.prog 24 #[.slice A l.length cap] w fun e w' => ∃ v, e = .returned (.tuple #[v, .int .i64 (least l).2]) ∧ Own w' w.heap.size v (least l).1 ∧ Below w.heap.size w w' := by
  have hmm := @run_makeMap Try.prog
  go_enter Try.func24, Try.ntmps24
  go_wp2
  clear hmm
  go_loopg [15] (l.length + 1) (fun kq v15 w' => ∃ j : Nat, v15 = .int .i64 (j : Int) ∧ j ≤ l.length ∧ kq + j = l.length + 1 ∧ Hid (∀ d ∈ l.take j, ok d = true) ∧ Inv1 w w' l j)
  case atStart =>
    exact ⟨0, rfl, Nat.zero_le _, rfl, Lib.hid (by simp), Inv1.start w l⟩
  case round =>
    obtain ⟨j, rfl, hj, hk, hok, hI⟩ := hrel
    by_cases hlt : j < l.length
    · obtain ⟨b0, off, rfl, h1, h2⟩ := (hR.below hI.bel).at_ hlt
      have hr := S.right l[j]
      unfold vC at hr
      have HI := Lib.hid hI
      have HOK := hok
      have hsz := hI.size
      clear hok hI
      cases hokj : ok l[j]
      · rw [hokj] at hr
        have hle : Hid (least l = ([], 2)) := by
          refine Lib.hid ?_
          have : l.all ok = false := by
            rw [List.all_eq_false]
            exact ⟨l[j], List.getElem_mem _, by rw [hokj]; exact Bool.false_ne_true⟩
          unfold least
          rw [this]
          rfl
        clear hokj
        go_wp2_with (go_at_call 13; refine (hr _).mono ?_; rintro e w2 ⟨rfl, hb2⟩)
        go_ret2
        rw [hle]
        exact ⟨_, rfl, Own.nil _ _, (HI.boxed hb2).2.1.bel⟩
      · rw [hokj] at hr
        have HO := Lib.hid hokj
        clear hokj
        by_cases hmem : l[j] ∈ dd (l.take j)
        · have HM := Lib.hid hmem
          clear hmem
          go_wp2_with (go_at_call 13; refine (hr _).mono ?_; rintro e w2 ⟨rfl, hb2⟩; obtain ⟨hA2, hI2, hlt2⟩ := HI.boxed hb2; have hc0 := hA2.1; have hc1 := hA2.2; have hlook := hI2.look l[j]; rw [decide_eq_true (show l[j] ∈ dd (l.take j) from HM)] at hlook)
          go_roundg (gk - 1)
          case measure => omega
          case rel =>
            refine ⟨j + 1, by simp, by omega, by omega, Lib.hid fun d hd => ?_, hI2.skip hlt HM⟩
            rw [List.take_succ_eq_append_getElem hlt] at hd
            rcases List.mem_append.1 hd with h3 | h3
            · exact HOK d h3
            · rw [List.mem_singleton.1 h3]
              exact HO
        · have HM := Lib.hid hmem
          clear hmem
          obtain ⟨iC, hiC, hzC, hsC, hbC⟩ := infoC
          go_wp2_with (first
            | (go_at_call 13; refine (hr _).mono ?_; rintro e w2 ⟨rfl, hb2⟩; obtain ⟨hA2, hI2, hlt2⟩ := HI.boxed hb2; have hc0 := hA2.1; have hc1 := hA2.2; have hlook := hI2.look l[j]; rw [decide_eq_false (show l[j] ∉ dd (l.take j) from HM)] at hlook; obtain ⟨w3, n, vo, hput, hn, hs3, hbx3, ho3, hA3, hbel3, hsz3⟩ := hI2.put (by omega) hA2 hsz; have hd0 := hA3.1; have hd1 := hA3.2; have hx0 := hbx3.cell)
            | (at_builtin; refine wpList_append_own _ rfl _ _ 30 rfl (w.heap.size + 2) 24 iC (.agg #[.int .u32 0, .int .u32 0]) 2 8 Try.underlying30 hiC hzC hsC hbC rfl (by decide) _ _ _ rfl (ho3.1.alloc _) ⟨w3.heap.size, 0, none⟩ 1 1 [.int .u32 (un l[j].1), .int .u32 (un l[j].2)] rfl rfl (cells2_new _ _ _ _) (by simp [Value.oneCell']) (by have := Nat.le_trans (length_dd (l.take j)) (List.length_take_le j l); unfold maxLen; omega) (by have := Nat.le_trans (length_dd (l.take j)) (List.length_take_le j l); omega) (by simp; omega) ?_; intro v' w4 hown hgrow _; obtain ⟨g', cap', rfl⟩ := ownsRow_succ hown; obtain ⟨hbx4, hI4⟩ := Inv1.next hlt HM hlen hn hs3 hbx3 ho3 hbel3 hsz3 hown hgrow; have hc4 := hbx4.cell; have hf4 := hbx4.frozen))
          go_roundg (gk - 1)
          case measure => omega
          case rel =>
            refine ⟨j + 1, by simp, by omega, by omega, Lib.hid fun d hd => ?_, hI4⟩
            rw [List.take_succ_eq_append_getElem hlt] at hd
            rcases List.mem_append.1 hd with h3 | h3
            · exact HOK d h3
            · rw [List.mem_singleton.1 h3]
              exact HO
    · obtain ⟨_, ⟨vo, hbx, ho⟩, hbel, hsz⟩ := hI
      have ejl : l.take j = l := List.take_of_length_le (by omega)
      have hall : l.all ok = true := by
        rw [List.all_eq_true]
        intro d hd
        exact hok d (by rw [ejl]; exact hd)
      rw [ejl] at ho
      have hDlen := Nat.le_trans (length_dd l) hlen
      have hleast : Hid (least l = if (keep l).length ≤ 64 then (sortC (keep l), 0) else ([], 3)) := by
        refine Lib.hid ?_
        unfold least
        rw [hall, if_pos rfl]
      have hkeep : Hid (keep l = (dd l).filter fun c => !needless (dd l) c) := Lib.hid rfl
      obtain ⟨A0, c0, rfl, hRd⟩ := ho.slice
      have hx := hbx.cell
      clear hok ejl hall ho
      generalize dd l = D at *
      generalize keep l = K at *
      go_wp2
      rename World => w1
      go_loopg [9, 36] (D.length + 1) (fun kq v9 v36 w' => ∃ j2 : Nat, v36 = .int .i64 (j2 : Int) ∧ j2 ≤ D.length ∧ kq + j2 = D.length + 1 ∧ Inv2 w1 w' v9 D j2)
      case atStart => exact ⟨0, rfl, Nat.zero_le _, by omega, Inv2.start _ _⟩
      case round =>
        clear hx
        obtain ⟨j2, rfl, hj2, hk2, hI2⟩ := hrel
        by_cases hlt2 : j2 < D.length
        · obtain ⟨b0, off, rfl, h1, h2⟩ := (hRd.below hI2.bel).at_ hlt2
          have hn := hI2.need S hbx hRd D[j2]
          have HI := Lib.hid hI2
          clear hI2
          cases hneed : needless D D[j2]
          · rw [hneed] at hn
            have HN := Lib.hid hneed
            clear hneed
            obtain ⟨iC, hiC, hzC, hsC, hbC⟩ := infoC
            have hkl := kept2_length D j2
            go_wp2_with (first
              | (go_at_call 46; refine hn.mono ?_; rintro e w2 ⟨rfl, hb2⟩; obtain ⟨hA2, hI3⟩ := HI.boxed hb2; have hc0 := hA2.1; have hc1 := hA2.2; have hbs := hI3.bel.size)
              | (at_builtin; refine wpList_append_own _ rfl _ _ 30 rfl w1.heap.size 24 iC (.agg #[.int .u32 0, .int .u32 0]) 2 8 Try.underlying30 hiC hzC hsC hbC rfl (by decide) _ _ _ rfl (hI3.own.1.alloc _) ⟨w2.heap.size, 0, none⟩ 1 1 [.int .u32 (un D[j2].1), .int .u32 (un D[j2].2)] rfl rfl (cells2_new _ _ _ _) (by simp [Value.oneCell']) (by unfold maxLen; omega) (by omega) (by simp; omega) ?_; intro v' w4 hown hgrow _; have hI4 := Inv2.next hI3 hDlen hlt2 HN hown hgrow))
            go_roundg (gk - 1)
            case measure => omega
            case rel => exact ⟨j2 + 1, by simp, by omega, by omega, hI4⟩
          · rw [hneed] at hn
            have HN := Lib.hid hneed
            clear hneed
            go_wp2_with (go_at_call 46; refine hn.mono ?_; rintro e w2 ⟨rfl, hb2⟩; obtain ⟨hA2, hI3⟩ := HI.boxed hb2)
            go_roundg (gk - 1)
            case measure => omega
            case rel => exact ⟨j2 + 1, by simp, by omega, by omega, hI3.skip hlt2 HN⟩
        · have hfin := kept2_all D (j := j2) (by omega)
          obtain ⟨hown, hbel2⟩ := hI2
          rw [hfin, ← (show K = _ from hkeep)] at hown
          obtain ⟨A9, c9, rfl, hR9⟩ := hown.slice
          have hbs := hbel.size
          have hb12 := below_then hbel hbs hbel2
          have hown' := hown.mono (base' := w.heap.size) (by omega)
          clear hfin
          by_cases hbig : K.length ≤ 64
          · have HB := Lib.hid hbig
            go_wp2_with (go_at_call 49; refine (sort_own _ _ _ _ hown').mono ?_; rintro e w2 ⟨rfl, hown2, hb3⟩)
            go_ret2
            rw [show least l = _ from hleast, if_pos (show K.length ≤ 64 from HB)]
            exact ⟨_, rfl, hown2, hb12.trans hb3⟩
          · have HB := Lib.hid hbig
            go_wp2
            go_ret2
            rw [show least l = _ from hleast, if_neg (show ¬ K.length ≤ 64 from HB)]
            exact ⟨_, rfl, Own.nil _ _, hb12⟩
end Go.Proofs.Ytahbmjpgnfgklaa
