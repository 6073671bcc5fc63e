/-
Walks: the reader's source.
-/
import Derived.Test.YtahdjajdaggmjaaDoorZwrong
import Derived.WalkSmall
import Derived.Laws.BitsLemmas
import Derived.BigQuiet
import Derived.Deep.QuietTactic
set_option linter.unusedVariables false
set_option linter.unusedSimpArgs false
namespace Go.Proofs.YtahdjajdaggmjaaDoor.XPo
open Go.RowKit Go.Proofs.YtahdjajdaggmjaaDoorW.PrintWords Go.Proofs.YtahdjajdaggmjaaDoorW.PrintLast Go.Proofs.YtahdjajdaggmjaaDoorW.PrintMore

/-- What a reader gives up with. -/
def refuse (at_ c : Int) : Ending := .panicked [{ v := .iface 59 (.agg #[.int .i64 at_, .int .i64 c]), recovered := false }]
/-- The reader at block p: its bytes (a row that came in at w0), the place, the map's block m. -/
structure RSt (w0 w : World) (p : Nat) (bs : List Int) (s m : Nat) : Prop where
  old : w0.heap.size ≤ p
  row : ∃ A c, w.heap[p]? = some (.cells #[.slice A bs.length c, .int .i64 (s : Int), .map (some m)] 66 (0, 0)) ∧ bs.length ≤ c ∧ Kd.C (Kd.int .u8) w0 A bs.length bs
  len : bs.length ≤ 1048576
  le : s ≤ bs.length
  oct : ∀ x ∈ bs, 0 ≤ x ∧ x < 256
theorem cells3 {w : World} {b t : Nat} {u0 u1 u2 : Value} (h : w.heap[b]? = some (.cells #[u0, u1, u2] t (0, 0))) : w.cell? ⟨b, 0, none⟩ = some u0 ∧ w.cell? ⟨b, 1, none⟩ = some u1 ∧ w.cell? ⟨b, 2, none⟩ = some u2 ∧ w.frozen? ⟨b, 0, none⟩ = false ∧ w.frozen? ⟨b, 1, none⟩ = false ∧ w.frozen? ⟨b, 2, none⟩ = false := by
  simp [World.cell?, World.frozen?, h]
theorem three_set1 {w : World} {b t : Nat} {u0 u1 u2 : Value} (h : w.heap[b]? = some (.cells #[u0, u1, u2] t (0, 0))) (u : Value) : (w.setCell ⟨b, 1, none⟩ u).heap[b]? = some (.cells #[u0, u, u2] t (0, 0)) := by
  have hlt := lt_of_block h
  have h' : w.heap[b] = .cells #[u0, u1, u2] t (0, 0) := by simpa [Array.getElem?_eq_getElem hlt] using h
  show (w.heap.modify b _)[b]? = _
  rw [Array.getElem?_eq_getElem (by simpa using hlt), Array.getElem_modify_self, h']
  rfl
theorem RSt.lt {w0 w : World} {p : Nat} {bs : List Int} {s m : Nat} (h : RSt w0 w p bs s m) : p < w.heap.size := by
  obtain ⟨A, c, hv, _⟩ := h.row
  exact blk_lt hv
theorem RSt.kept {w0 w w1 : World} {p : Nat} {bs : List Int} {s m : Nat} {S : Nat → Prop} (h : RSt w0 w p bs s m) (hk : Kept w w1 S) (hp : ¬ S p) : RSt w0 w1 p bs s m := by
  obtain ⟨A, c, hv, hc, hr⟩ := h.row
  exact ⟨h.old, ⟨A, c, blk_kept hv hk hp, hc, hr⟩, h.len, h.le, h.oct⟩
theorem RSt.below {w0 w w1 : World} {p : Nat} {bs : List Int} {s m : Nat} (h : RSt w0 w p bs s m) (hb : Below w.heap.size w w1) : RSt w0 w1 p bs s m := h.kept (Kept.of_below hb (fun _ => False)) id
theorem RSt.move {w0 w : World} {p : Nat} {bs : List Int} {s m : Nat} (h : RSt w0 w p bs s m) (s2 : Nat) (h2 : s2 ≤ bs.length) : RSt w0 (w.setCell ⟨p, 1, none⟩ (.int .i64 (s2 : Int))) p bs s2 m := by
  obtain ⟨A, c, hv, hc, hr⟩ := h.row
  exact ⟨h.old, ⟨A, c, three_set1 hv _, hc, hr⟩, h.len, h2, h.oct⟩

theorem source_fail (p : Value) (at_ c : Int) (w : World) : Calls Tryd.prog 22 #[p, .int .i64 at_, .int .i64 c] w fun e w' => e = refuse at_ c ∧ w' = w := by
  go_enter Tryd.func22, Tryd.ntmps22
  go_wp2
  simp [bodyPost, refuse]
theorem RSt.at_ {w0 w : World} {p : Nat} {bs : List Int} {s m : Nat} (h : RSt w0 w p bs s m) (hb : Below w0.heap.size w0 w) : ∃ A c, w.heap[p]? = some (.cells #[.slice A bs.length c, .int .i64 (s : Int), .map (some m)] 66 (0, 0)) ∧ bs.length ≤ c ∧ Kd.C (Kd.int .u8) w A bs.length bs := by
  obtain ⟨A, c, hv, hc, hr⟩ := h.row
  exact ⟨A, c, hv, hc, Kd.C_below hr hb⟩
theorem rd_oct {bs : List Int} (h : ∀ x ∈ bs, 0 ≤ x ∧ x < 256) (i : Int) : 0 ≤ rd bs i ∧ rd bs i < 256 := by
  unfold rd
  rw [List.getD_eq_getElem?_getD]
  rcases Nat.lt_or_ge i.toNat bs.length with hi | hi
  · rw [List.getElem?_eq_getElem hi]
    exact h _ (List.getElem_mem hi)
  · rw [List.getElem?_eq_none hi]
    simp
theorem source_byte_no (w0 : World) (p : Nat) (bs : List Int) (s m : Nat) (at_ : Int) (w : World) (hb : Below w0.heap.size w0 w) (hr : RSt w0 w p bs s m) (hs : ¬ s < bs.length) :
    Calls Tryd.prog 21 #[.pointer (some ⟨p, 0, none⟩), .int .i64 at_] w fun e w' => e = refuse at_ 61 ∧ Drawn0 w w' := by
  obtain ⟨A, c, hv, hc, hC⟩ := hr.at_ hb
  obtain ⟨c0, c1, c2, f0, f1, f2⟩ := cells3 hv
  have hd : bs.length ≤ s := by omega
  clear hv hC hs hr hb
  go_enter Tryd.func21, Tryd.ntmps21
  go_wp2
  go_quiet (fail)
  go_wp2_with (with_reducible refine (source_fail _ _ _ _).mono ?_; rintro e w' ⟨rfl, rfl⟩)
  rename_i hq
  cases hq
  simp [bodyPost, refuse]
  exact ⟨nq, rfl⟩
theorem cell_from {w0 w : World} {a : Addr} {v : Value} (h : w0.cell? a = some v) (hb : Below w0.heap.size w0 w) : w.cell? a = some v := by
  have := hb.block a.block (World.block_lt_of_cell? w0 _ h)
  simpa [World.cell?, this] using h
theorem cell_far {w : World} {a : Addr} {p j : Nat} {u v : Value} (h : w.cell? a = some v) (hp : a.block ≠ p) : (w.setCell ⟨p, j, none⟩ u).cell? a = some v := by
  have := Below.heap_setCell w ⟨p, j, none⟩ u a.block hp
  simpa [World.cell?, this] using h
theorem source_byte (w0 : World) (p : Nat) (bs : List Int) (s m : Nat) (at_ : Int) (w : World) (hb : Below w0.heap.size w0 w) (hr : RSt w0 w p bs s m) (hs : s < bs.length) :
    Calls Tryd.prog 21 #[.pointer (some ⟨p, 0, none⟩), .int .i64 at_] w fun e w' => e = .returned (.int .u8 (rd bs s)) ∧ RSt w0 w' p bs (s + 1) m ∧ Below w0.heap.size w0 w' ∧ Kept w w' (fun k => k = p) := by
  obtain ⟨A, c, hv, hc, hC0⟩ := hr.row
  have hl := hr.len
  obtain ⟨c0, c1, c2, f0, f1, f2⟩ := cells3 hv
  have hd : ¬ bs.length ≤ s := by omega
  obtain ⟨ad, rfl, ha⟩ := Kd.at_int hC0 (s : Int) (by omega) (by omega)
  rw [Int.toNat_natCast] at ha
  have hne : (ad.add s).block ≠ p := fun e => by
    have h1 := World.block_lt_of_cell? w0 _ ha
    have h2 := hr.old
    omega
  have HA := Aside0.mk (cell_from ha hb)
  have HN := Aside0.mk hne
  have hi1 : (0 : Int) ≤ (s : Int) := by omega
  have hi2 : (s : Int) < (bs.length : Int) := by omega
  have HH := Aside0.mk hr
  have HB := Aside0.mk hb
  have HV := Aside0.mk hv
  have HL := Aside0.mk hl
  have hw1 : wrap64 ((s : Int) + 1) = (s : Int) + 1 := by unfold wrap64; omega
  have hw2 : IntKind.i64.wrap (s : Int) = (s : Int) := by rw [show IntKind.i64.wrap (s : Int) = wrap64 (s : Int) from i64_w _]; unfold wrap64; omega
  clear hC0 hr hb ha hne hv hl
  go_enter Tryd.func21, Tryd.ntmps21
  go_wp2
  go_quiet (fail)
  go_wp2
  have hv1 : (w.drewN nq).heap[p]? = some (.cells #[.slice (some ad) bs.length c, .int .i64 (s : Int), .map (some m)] 66 (0, 0)) := HV.out
  have hv2 := three_set1 hv1 (.int .i64 ((s : Int) + 1))
  have ha2 := cell_far (j := 1) (u := .int .i64 ((s : Int) + 1)) (show (w.drewN nq).cell? (ad.add s) = _ from HA.out) HN.out
  have HR2 := Aside0.mk (show RSt w0 ((w.drewN nq).setCell ⟨p, 1, none⟩ (.int .i64 ((s : Int) + 1))) p bs (s + 1) m from RSt.move (w := w.drewN nq) (HH.out.below (pw_below_drewN (Below.refl _ _) nq)) (s + 1) (by omega))
  have HB2 := Aside0.mk ((pw_below_drewN HB.out nq).setCell (p := ⟨p, 1, none⟩) HH.out.old (.int .i64 ((s : Int) + 1)))
  have HK2 := Aside0.mk (((Kept.refl w (fun k => k = p)).drewN nq).setCell (p := ⟨p, 1, none⟩) (.inl rfl) (.int .i64 ((s : Int) + 1)))
  clear c0 c1 c2 f0 f1 f2 hw1 HV hv1 HA HB HH
  revert HR2 HB2 HK2 hv2 ha2
  generalize (w.drewN nq).setCell ⟨p, 1, none⟩ (.int .i64 ((s : Int) + 1)) = W
  intro hv2 ha2 HR2 HB2 HK2
  obtain ⟨c0, c1, c2, f0, f1, f2⟩ := cells3 hv2
  clear hv2
  go_quiet (fail)
  go_wp2
  go_ret
  exact ⟨rfl, HR2.out.below (pw_below_drewN (Below.refl _ _) nq), pw_below_drewN HB2.out nq, HK2.out.drewN nq⟩
/-- A number, read from place s on; a: where it began. -/
def numG (bs : List Int) (a : Nat) : Nat → Nat → Nat → Nat → Except (Int × Int) (Nat × Nat)
  | 0, _, _, _ => .error ((a : Int), 61)
  | k + 1, n, i, s =>
    if s < bs.length then
      if 2147483647 < n + (rd bs s).toNat % 128 * 128 ^ i ∨ 4 < i ∨ (rd bs s).toNat = 0 ∧ 0 < i then .error ((a : Int), 61)
      else if (rd bs s).toNat < 128 then .ok (n + (rd bs s).toNat % 128 * 128 ^ i, s + 1)
      else numG bs a k (n + (rd bs s).toNat % 128 * 128 ^ i) (i + 1) (s + 1)
    else .error ((a : Int), 61)
def numS (bs : List Int) (s : Nat) : Except (Int × Int) (Nat × Nat) := numG bs s 6 0 0 s
/-- What a reading function of the reader leaves. -/
def RPost {α : Type} (w0 w : World) (p m : Nat) (bs : List Int) (mk : α → World → Value → Prop) (r : Except (Int × Int) (α × Nat)) (e : Ending) (w' : World) : Prop :=
  Below w0.heap.size w0 w' ∧ Kept w w' (fun k => k = p) ∧ match r with
    | .ok (x, s) => RSt w0 w' p bs s m ∧ ∃ v, e = .returned v ∧ mk x w' v
    | .error (a, c) => e = refuse a c
def intV (n : Nat) (w : World) (v : Value) : Prop := v = .int .i64 (n : Int)
set_option maxRecDepth 100000 in
theorem and127 : ∀ r : Fin 256, bits .and .u8 ((r.val : Nat) : Int) 127 = ((r.val % 128 : Nat) : Int) := by decide
theorem wrap_u64n (n : Nat) (h : n < 18446744073709551616) : IntKind.u64.wrap (n : Int) = (n : Int) := by
  simp [IntKind.wrap, IntKind.bits, IntKind.signed]
  omega
theorem or_shl (n c i : Nat) (hn : n < 128 ^ i) (hc : c < 256) (hi : i < 6) :
    bits .or .u64 (n : Int) (IntKind.u64.wrap (IntKind.u64.wrap (bits .and .u8 (c : Int) 127) * 2 ^ (7 * i))) = ((n + c % 128 * 128 ^ i : Nat) : Int) := by
  have h1 : bits .and .u8 (c : Int) 127 = ((c % 128 : Nat) : Int) := and127 ⟨c, hc⟩
  have h2 : (128 : Nat) ^ i = 2 ^ (7 * i) := by rw [show (128 : Nat) = 2 ^ 7 from rfl, ← Nat.pow_mul]
  have h3 : (2 : Nat) ^ (7 * i) ≤ 2 ^ 35 := Nat.pow_le_pow_right (by omega) (by omega)
  have h4 : c % 128 * 2 ^ (7 * i) ≤ 127 * 2 ^ 35 := Nat.mul_le_mul (by omega) h3
  rw [h2] at hn ⊢
  rw [h1, wrap_u64n _ (by omega), show (((c % 128 : Nat) : Int) * 2 ^ (7 * i)) = ((c % 128 * 2 ^ (7 * i) : Nat) : Int) by rw [Int.natCast_mul]; congr 1, wrap_u64n _ (by omega)]
  have ha : n < 2 ^ 63 := by omega
  have hb : c % 128 * 2 ^ (7 * i) < 2 ^ 63 := by omega
  rw [(bits_nat .u64 63 (by decide) (fun m h0 h1 => by obtain ⟨a, rfl⟩ := Int.eq_ofNat_of_zero_le h0; exact wrap_u64n a (by omega)) n _ ha hb).2]
  congr 1
  rw [Nat.or_comm, Nat.mul_comm, ← Nat.two_pow_add_eq_or_of_lt hn, Nat.add_comm]
theorem RPost.no {α : Type} {w0 w w' : World} {p m : Nat} {bs : List Int} {mk : α → World → Value → Prop} {r : Except (Int × Int) (α × Nat)} {a c : Int} (hr : r = .error (a, c)) (hb : Below w0.heap.size w0 w') (hk : Kept w w' (fun k => k = p)) : RPost w0 w p m bs mk r (refuse a c) w' := by
  subst hr
  exact ⟨hb, hk, rfl⟩
theorem RPost.yes {α : Type} {w0 w w' : World} {p m : Nat} {bs : List Int} {mk : α → World → Value → Prop} {r : Except (Int × Int) (α × Nat)} {x : α} {s : Nat} {v : Value} (hr : r = .ok (x, s)) (hb : Below w0.heap.size w0 w') (hk : Kept w w' (fun k => k = p)) (hR : RSt w0 w' p bs s m) (hm : mk x w' v) : RPost w0 w p m bs mk r (.returned v) w' := by
  subst hr
  exact ⟨hb, hk, hR, v, rfl, hm⟩
set_option maxHeartbeats 1000000 in
set_option maxRecDepth 100000 in
theorem source_number (w0 : World) (p : Nat) (bs : List Int) (s m : Nat) (w : World) (hb : Below w0.heap.size w0 w) (hr : RSt w0 w p bs s m) :
    Calls Tryd.prog 23 #[.pointer (some ⟨p, 0, none⟩)] w (RPost w0 w p m bs intV (numS bs s)) := by
  obtain ⟨A, c, hv, hc, hC0⟩ := hr.row
  obtain ⟨c0, c1, c2, f0, f1, f2⟩ := cells3 hv
  have HR := Aside0.mk hr
  have HB := Aside0.mk hb
  clear hr hb hC0 hv
  go_enter Tryd.func23, Tryd.ntmps23
  go_wp2
  go_loopg [4, 5, 6] 6 (fun kq v4 v5 v6 w' => ∃ (n i s2 : Nat), v4 = .int .u64 (n : Int) ∧ v5 = .int .u64 ((7 * i : Nat) : Int) ∧ i + kq = 6 ∧ i ≤ 5 ∧ n ≤ 2147483647 ∧ Aside0 (n < 128 ^ i) ∧ Aside0 (numG bs s kq n i s2 = numS bs s) ∧ Aside0 (RSt w0 w' p bs s2 m) ∧ Aside0 (Below w0.heap.size w0 w') ∧ Aside0 (Kept w w' (fun k => k = p)))
  case atStart => exact ⟨0, 0, s, rfl, rfl, rfl, by omega, by omega, ⟨by decide⟩, ⟨rfl⟩, HR, HB, ⟨Kept.refl _ _⟩⟩
  case round =>
    clear HB HR c0 c1 c2 f0 f1 f2
    obtain ⟨n, i, s2, rfl, rfl, hk, hi5, hn, hni, HG, HR, HB, HK⟩ := hrel
    by_cases hs : s2 < bs.length
    · have ho := rd_oct HR.out.oct (s2 : Int)
      obtain ⟨cN, hcN⟩ := Int.eq_ofNat_of_zero_le ho.1
      have hc6 : cN < 256 := by omega
      have hlt : i < 6 := by omega
      have hq := or_shl n cN i hni.out hc6 hlt
      obtain ⟨g2, rfl⟩ : ∃ g2, gk = g2 + 1 := ⟨gk - 1, by omega⟩
      have hG := HG.out
      rw [numG, if_pos hs, hcN, show ((cN : Int)).toNat = cN from rfl] at hG
      have HC := Aside0.mk hcN
      clear ho HG hcN
      generalize hqq : n + cN % 128 * 128 ^ i = q at hq hG
      by_cases h1 : 2147483647 < q
      · rw [if_pos (.inl h1)] at hG
        have HG := Aside0.mk hG.symm
        clear hG hqq
        go_wp2_with (first | ((with_reducible refine (source_byte w0 p bs s2 m _ _ HB.out HR.out hs).mono ?_); rintro e w1 ⟨rfl, hr1, hb1, hk1⟩; rw [HC.out]; have HR1 := Aside0.mk hr1; have HB1 := Aside0.mk hb1; have HK1 := Aside0.mk (HK.out.then_ hk1 (fun _ h => .inl h)); clear hr1 hb1 hk1) | ((with_reducible refine (source_fail _ _ _ _).mono ?_); rintro e w2 ⟨rfl, rfl⟩))
        rename_i hq9; cases hq9; simp only [bodyPost]; exact ⟨trivial, RPost.no HG.out HB1.out HK1.out⟩
      · by_cases h2 : 4 < i
        · have h2' : (35 : Int) < 7 * (i : Int) + 7 := by omega
          rw [if_pos (.inr (.inl h2))] at hG
          have HG := Aside0.mk hG.symm
          clear hG hqq
          go_wp2_with (first | ((with_reducible refine (source_byte w0 p bs s2 m _ _ HB.out HR.out hs).mono ?_); rintro e w1 ⟨rfl, hr1, hb1, hk1⟩; rw [HC.out]; have HR1 := Aside0.mk hr1; have HB1 := Aside0.mk hb1; have HK1 := Aside0.mk (HK.out.then_ hk1 (fun _ h => .inl h)); clear hr1 hb1 hk1) | ((with_reducible refine (source_fail _ _ _ _).mono ?_); rintro e w2 ⟨rfl, rfl⟩))
          rename_i hq9; cases hq9; simp only [bodyPost]; exact ⟨trivial, RPost.no HG.out HB1.out HK1.out⟩
        · have h2' : ¬ (35 : Int) < 7 * (i : Int) + 7 := by omega
          by_cases h4 : cN = 0
          · by_cases h5 : 0 < i
            · have h5' : (7 : Int) < 7 * (i : Int) + 7 := by omega
              rw [if_pos (.inr (.inr ⟨h4, h5⟩))] at hG
              subst h4
              have hq' : bits .or .u64 (n : Int) (IntKind.u64.wrap (IntKind.u64.wrap (bits .and .u8 0 127) * 2 ^ (7 * i))) = (q : Int) := hq
              have HG := Aside0.mk hG.symm
              clear hG hqq
              go_wp2_with (first | ((with_reducible refine (source_byte w0 p bs s2 m _ _ HB.out HR.out hs).mono ?_); rintro e w1 ⟨rfl, hr1, hb1, hk1⟩; rw [HC.out]; have HR1 := Aside0.mk hr1; have HB1 := Aside0.mk hb1; have HK1 := Aside0.mk (HK.out.then_ hk1 (fun _ h => .inl h)); clear hr1 hb1 hk1) | ((with_reducible refine (source_fail _ _ _ _).mono ?_); rintro e w2 ⟨rfl, rfl⟩))
              rename_i hq9; cases hq9; simp only [bodyPost]; exact ⟨trivial, RPost.no HG.out HB1.out HK1.out⟩
            · have h5' : ¬ (7 : Int) < 7 * (i : Int) + 7 := by omega
              rw [if_neg (by omega), if_pos (by omega)] at hG
              subst h4
              have hq' : bits .or .u64 (n : Int) (IntKind.u64.wrap (IntKind.u64.wrap (bits .and .u8 0 127) * 2 ^ (7 * i))) = (q : Int) := hq
              have HG := Aside0.mk hG.symm
              clear hG hqq
              go_wp2_with (first | ((with_reducible refine (source_byte w0 p bs s2 m _ _ HB.out HR.out hs).mono ?_); rintro e w1 ⟨rfl, hr1, hb1, hk1⟩; rw [HC.out]; have HR1 := Aside0.mk hr1; have HB1 := Aside0.mk hb1; have HK1 := Aside0.mk (HK.out.then_ hk1 (fun _ h => .inl h)); clear hr1 hb1 hk1) | ((with_reducible refine (source_fail _ _ _ _).mono ?_); rintro e w2 ⟨rfl, rfl⟩))
              go_ret; exact RPost.yes HG.out HB1.out HK1.out HR1.out rfl
          · by_cases h6 : cN < 128
            · rw [if_neg (by omega), if_pos h6] at hG
              have HG := Aside0.mk hG.symm
              clear hG hqq
              go_wp2_with (first | ((with_reducible refine (source_byte w0 p bs s2 m _ _ HB.out HR.out hs).mono ?_); rintro e w1 ⟨rfl, hr1, hb1, hk1⟩; rw [HC.out]; have HR1 := Aside0.mk hr1; have HB1 := Aside0.mk hb1; have HK1 := Aside0.mk (HK.out.then_ hk1 (fun _ h => .inl h)); clear hr1 hb1 hk1) | ((with_reducible refine (source_fail _ _ _ _).mono ?_); rintro e w2 ⟨rfl, rfl⟩))
              go_ret; exact RPost.yes HG.out HB1.out HK1.out HR1.out rfl
            · have hqb : q < 128 ^ (i + 1) := by
                rw [← hqq, Nat.pow_succ]
                have h7 : cN % 128 * 128 ^ i ≤ 127 * 128 ^ i := Nat.mul_le_mul_right _ (by omega)
                have h8 := hni.out
                omega
              have HQ := Aside0.mk hqb; rw [if_neg (by omega), if_neg h6] at hG; have HG := Aside0.mk hG; clear hG hqq hqb
              go_wp2_with (first | ((with_reducible refine (source_byte w0 p bs s2 m _ _ HB.out HR.out hs).mono ?_); rintro e w1 ⟨rfl, hr1, hb1, hk1⟩; rw [HC.out]; have HR1 := Aside0.mk hr1; have HB1 := Aside0.mk hb1; have HK1 := Aside0.mk (HK.out.then_ hk1 (fun _ h => .inl h)); clear hr1 hb1 hk1) | ((with_reducible refine (source_fail _ _ _ _).mono ?_); rintro e w2 ⟨rfl, rfl⟩))
              go_roundg g2
              case measure => omega
              case rel => exact ⟨q, i + 1, s2 + 1, rfl, rfl, by omega, by omega, by omega, HQ, HG, HR1, HB1, HK1⟩
    · have hG := HG.out
      obtain ⟨g2, rfl⟩ : ∃ g2, gk = g2 + 1 := ⟨gk - 1, by omega⟩
      rw [numG, if_neg hs] at hG
      have HG := Aside0.mk hG.symm
      clear hG
      go_wp2_with ((with_reducible refine (source_byte_no w0 p bs s2 m _ _ HB.out HR.out hs).mono ?_); rintro e w1 ⟨rfl, hd1⟩)
      rename_i hq9; cases hq9; simp only [bodyPost]
      obtain ⟨m1, rfl⟩ := hd1
      exact ⟨trivial, RPost.no HG.out (pw_below_drewN HB.out m1) (HK.out.drewN m1)⟩
end Go.Proofs.YtahdjajdaggmjaaDoor.XPo
