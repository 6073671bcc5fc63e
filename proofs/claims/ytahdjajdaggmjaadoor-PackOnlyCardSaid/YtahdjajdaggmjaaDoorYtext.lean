/-
Walks: the reader's names and rows.
-/
import Derived.Test.YtahdjajdaggmjaaDoorYsrc
import Derived.Tactics
import Derived.Tactics2
set_option linter.unusedVariables false
set_option linter.unusedSimpArgs false
namespace Go.Proofs.YtahdjajdaggmjaaDoor.XPo
open Go.RowKit Go.Proofs.YtahdjajdaggmjaaDoorW.PrintWords Go.Proofs.YtahdjajdaggmjaaDoorW.PrintLast Go.Proofs.YtahdjajdaggmjaaDoorW.PrintMore

def strV (s : ByteArray) (w : World) (v : Value) : Prop := v = .string s
/-- A name, read. -/
def textS (nb : ByteArray → Bool) (bs : List Int) (s : Nat) : Except (Int × Int) (ByteArray × Nat) :=
  match numS bs s with
  | .error e => .error e
  | .ok (n, s2) => if bs.length - s2 < n then .error ((s : Int), 61) else if nb (strOfNums ((bs.take (s2 + n)).drop s2)) = true then .ok (strOfNums ((bs.take (s2 + n)).drop s2), s2 + n) else .error ((s : Int), 61)
theorem textS_size {nb : ByteArray → Bool} {bs : List Int} {s s1 : Nat} {x : ByteArray} (h : textS nb bs s = .ok (x, s1)) : x.size ≤ bs.length := by
  unfold textS at h
  split at h
  · cases h
  · split at h
    · cases h
    · split at h
      · cases h
        simp only [strOfNums, ByteArray.size, List.size_toArray, List.length_map, List.length_drop, List.length_take]
        omega
      · cases h
theorem RPost.err {α : Type} {w0 w w' : World} {p m : Nat} {bs : List Int} {mk : α → World → Value → Prop} {r : Except (Int × Int) (α × Nat)} {x : Int × Int} (hr : r = .error x) (hb : Below w0.heap.size w0 w') (hk : Kept w w' (fun k => k = p)) : RPost w0 w p m bs mk r (refuse x.1 x.2) w' := RPost.no hr hb hk
theorem w64r {a : Int} (h0 : -9223372036854775808 ≤ a) (h1 : a < 9223372036854775808) : wrap64 a = a := by unfold wrap64; omega
theorem wI64 {a : Int} (h0 : -9223372036854775808 ≤ a) (h1 : a < 9223372036854775808) : IntKind.i64.wrap a = a := by rw [show IntKind.i64.wrap a = wrap64 a from i64_w _]; exact w64r h0 h1
set_option maxHeartbeats 1000000 in
set_option maxRecDepth 100000 in
theorem reader_text {PN : ByteArray → Prop} {nb : ByteArray → Bool} (HN : ∀ (s : ByteArray) (w : World), Tab w → PN s → Calls Tryd.prog 26 #[.string s] w fun e w' => e = .returned (.bool (nb s)) ∧ Below w.heap.size w w')
    (w0 : World) (p : Nat) (bs : List Int) (s m : Nat) (w : World) (hT : Tab w0) (hpn : ∀ s : ByteArray, s.size ≤ bs.length → PN s) (hb : Below w0.heap.size w0 w) (hr : RSt w0 w p bs s m) :
    Calls Tryd.prog 30 #[.pointer (some ⟨p, 0, none⟩)] w (RPost w0 w p m bs strV (textS nb bs s)) := by
  obtain ⟨A, c, hv, hc, hC0⟩ := hr.row
  have hl := hr.len
  obtain ⟨c0, c1, c2, f0, f1, f2⟩ := cells3 hv
  have hcn := source_number w0 p bs s m w hb hr
  have HN0 := Aside0.mk HN
  have HP0 := Aside0.mk hpn
  have HT0 := Aside0.mk hT
  clear hr hb hC0 hv hc HN hpn hT
  rcases hq : numS bs s with x | ⟨n, s2⟩
  · rw [hq] at hcn
    have HQ := Aside0.mk hq
    clear hq
    go_enter Tryd.func30, Tryd.ntmps30
    go_wp2_with (go_at_call 23; refine hcn.mono ?_; rintro e w1 ⟨hb1, hk1, rfl⟩)
    rename_i hq9
    cases hq9
    simp only [bodyPost]
    exact ⟨trivial, RPost.err (by rw [textS, HQ.out]) hb1 hk1⟩
  · rw [hq] at hcn
    have HQ := Aside0.mk hq
    clear hq
    have hcn2 : Calls Tryd.prog 23 #[.pointer (some ⟨p, 0, none⟩)] w fun e w' => Below w0.heap.size w0 w' ∧ Kept w w' (fun k => k = p) ∧ RSt w0 w' p bs s2 m ∧ e = .returned (.int .i64 (n : Int)) := hcn.mono fun e w' ⟨h1, h2, h3, v, h4, h5⟩ => ⟨h1, h2, h3, by rw [h4, h5]⟩
    clear hcn
    go_enter Tryd.func30, Tryd.ntmps30
    go_upto_region 3 with (go_at_call 23; refine hcn2.mono ?_; rintro e w1 ⟨hb1, hk1, hr1, rfl⟩)
    clear hcn2 c0 c1 c2 f0 f1 f2
    obtain ⟨A1, k1, hv1, hc1, hC1⟩ := hr1.at_ hb1
    obtain ⟨c0, c1, c2, f0, f1, f2⟩ := cells3 hv1
    have hle := hr1.le
    have HB1 := Aside0.mk hb1
    have HK1 := Aside0.mk hk1
    have HR1 := Aside0.mk hr1
    have HC1 := Aside0.mk hC1
    have HV1 := Aside0.mk hv1
    clear hb1 hk1 hr1 hC1 hv1
    have hw1 := wI64 (a := (bs.length : Int) - (s2 : Int)) (by omega) (by omega)
    have hw2 := w64r (a := (bs.length : Int) - (s2 : Int)) (by omega) (by omega)
    by_cases h1 : bs.length - s2 < n
    · have h1' : decide ((bs.length : Int) - (s2 : Int) < (n : Int)) = true := decide_eq_true (by omega)
      have HE : Aside0 (textS nb bs s = .error ((s : Int), 61)) := ⟨by rw [textS, HQ.out]; exact if_pos h1⟩
      clear h1
      go_quiet (fail)
      go_wp2_with ((with_reducible refine (source_fail _ _ _ _).mono ?_); rintro e w2 ⟨rfl, rfl⟩)
      rename_i hq9
      cases hq9
      simp only [bodyPost]
      exact ⟨trivial, RPost.no HE.out (pw_below_drewN HB1.out _) (HK1.out.drewN _)⟩
    · have h1' : decide ((bs.length : Int) - (s2 : Int) < (n : Int)) = false := decide_eq_false (by omega)
      obtain ⟨sv, hsv⟩ : ∃ sv, sv = strOfNums ((bs.take (s2 + n)).drop s2) := ⟨_, rfl⟩
      have hsz : sv.size ≤ bs.length := by
        rw [hsv]
        simp only [strOfNums, ByteArray.size, List.size_toArray, List.length_map, List.length_drop, List.length_take]
        omega
      have hTX : Aside0 (textS nb bs s = if nb sv = true then .ok (sv, s2 + n) else .error ((s : Int), 61)) := ⟨by rw [textS, HQ.out]; show (if bs.length - s2 < n then _ else _) = _; rw [if_neg h1, ← hsv]⟩
      go_quiet (fail)
      go_wp2
      have hR1 := HR1.out.below (w1 := w1.drewN nq) (pw_below_drewN (Below.refl _ _) _)
      have hB1 := pw_below_drewN HB1.out nq
      have hK1 := HK1.out.drewN nq
      clear hw1 hw2 h1' c0 c1 c2 f0 f1 f2 HR1 HB1 HK1 HC1 HV1 hc1
      revert hR1 hB1 hK1
      generalize w1.drewN nq = W1
      intro hR1 hB1 hK1
      obtain ⟨A1, k1, hv1, hc1, hC1⟩ := hR1.at_ hB1
      obtain ⟨c0, c1, c2, f0, f1, f2⟩ := cells3 hv1
      have HR1 := Aside0.mk hR1
      have HB1 := Aside0.mk hB1
      have HK1 := Aside0.mk hK1
      have HC1 := Aside0.mk hC1
      obtain ⟨i5, hi5, hz5⟩ := Option.map_eq_some_iff.1 uint8_info
      simp only [Prod.mk.injEq] at hz5
      have hcut := cut_mid (P := Tryd.prog) 25 5 .i64 .i64 Tryd.underlying25 hi5 1 hz5.2.1 A1 bs.length k1 (s2 : Int) ((s2 : Int) + (n : Int)) (by omega) (by omega) (by omega) hc1
      rw [show ((s2 : Int) + (n : Int)).toNat = s2 + n by omega, show ((s2 : Int)).toNat = s2 by omega, show s2 + n - s2 = n by omega, Nat.mul_one] at hcut
      obtain ⟨A9, hA9⟩ : ∃ A9, A9 = (if k1 = s2 then A1 else A1.map (fun x => x.add s2)) := ⟨_, rfl⟩
      rw [← hA9] at hcut
      have hml : ((bs.take (s2 + n)).drop s2).length = n := by rw [List.length_drop, List.length_take]; omega
      have hst2 : ∀ j, (convert 25 9 (.slice A9 n (k1 - s2))).run Tryd.prog (W1.drewN j) = .ok (.string sv) (W1.drewN j) := fun j => by
        have hmid := Kd.C_mid (Kd.C_below HC1.out (pw_below_drewN (Below.refl _ _) j)) (lo := s2) (hi := s2 + n) (by omega) (by omega) hc1
        rw [hml, show (Kd.int IntKind.u8).sz = 1 from rfl, Nat.mul_one, ← hA9] at hmid
        have hst := Kd.C_string Tryd.underlying25 Tryd.underlying5 Tryd.underlying9 (c := k1 - s2) hmid
        rw [← hsv] at hst
        exact hst
      have hw3 := wI64 (a := (s2 : Int) + (n : Int)) (by omega) (by omega)
      have hw4 := w64r (a := (s2 : Int) + (n : Int)) (by omega) (by omega)
      clear hml hsv hi5 hz5 hA9 hR1 hB1 hK1 hC1 hv1
      go_quiet (fail)
      have hR2 := HR1.out.below (w1 := W1.drewN nq) (pw_below_drewN (Below.refl _ _) _)
      have hB2 := pw_below_drewN HB1.out nq
      have hK2 := HK1.out.drewN nq
      clear hw3 hw4 hcut hst2 c0 c1 c2 f0 f1 f2 HR1 HB1 HK1 HC1 hc1
      revert hR2 hB2 hK2
      generalize W1.drewN nq = W2
      intro hR2 hB2 hK2
      have hcnm := HN0.out sv W2 (Tab.below HT0.out hB2) (HP0.out sv hsz)
      have HR2 := Aside0.mk hR2
      have HB2 := Aside0.mk hB2
      have HK2 := Aside0.mk hK2
      clear hR2 hB2 hK2
      by_cases h2 : nb sv = true
      · rw [h2] at hcnm
        have HE : Aside0 (textS nb bs s = .ok (sv, s2 + n)) := ⟨by rw [hTX.out, if_pos h2]⟩
        clear h2 hTX
        go_upto_region 8 with (go_at_call 26; refine hcnm.mono ?_; rintro e w3 ⟨rfl, hb3⟩; have hR3 := HR2.out.below hb3; have hB3 := below_step HB2.out hb3; have hK3 := HK2.out.below hb3; obtain ⟨A3, k3, hv3, hc3, hC3⟩ := hR3.at_ hB3; obtain ⟨c0, c1, c2, f0, f1, f2⟩ := cells3 hv3; have HR3 := Aside0.mk hR3; have HB3 := Aside0.mk hB3; have HK3 := Aside0.mk hK3; clear hb3 hR3 hB3 hK3 hv3 hC3 hcnm)
        have hw3 := wI64 (a := (s2 : Int) + (n : Int)) (by omega) (by omega)
        have hw4 := w64r (a := (s2 : Int) + (n : Int)) (by omega) (by omega)
        go_wp2
        go_ret
        exact RPost.yes HE.out (HB3.out.setCell (p := ⟨p, 1, none⟩) HR3.out.old _) (HK3.out.setCell (p := ⟨p, 1, none⟩) (.inl rfl) _) (HR3.out.move (s2 + n) (by omega)) rfl
      · have h2' : nb sv = false := by simpa using h2
        rw [h2'] at hcnm
        have HE : Aside0 (textS nb bs s = .error ((s : Int), 61)) := ⟨by rw [hTX.out, if_neg h2]⟩
        clear h2 hTX h2'
        go_wp2_with (first | (go_at_call 26; refine hcnm.mono ?_; rintro e w3 ⟨rfl, hb3⟩; have HB3 := Aside0.mk (below_step HB2.out hb3); have HK3 := Aside0.mk (HK2.out.below hb3); clear hb3 hcnm) | ((with_reducible refine (source_fail _ _ _ _).mono ?_); rintro e w2 ⟨rfl, rfl⟩))
        rename_i hq9
        cases hq9
        simp only [bodyPost]
        exact ⟨trivial, RPost.no HE.out HB3.out HK3.out⟩
end Go.Proofs.YtahdjajdaggmjaaDoor.XPo
