/-
Walks: the reader's rows.
-/
import Derived.Test.YtahdjajdaggmjaaDoorYtext
set_option linter.unusedVariables false
set_option linter.unusedSimpArgs false
namespace Go.Proofs.YtahdjajdaggmjaaDoor.XPo
open Go.RowKit Go.Proofs.YtahdjajdaggmjaaDoorW.PrintWords Go.Proofs.YtahdjajdaggmjaaDoorW.PrintLast Go.Proofs.YtahdjajdaggmjaaDoorW.PrintMore

theorem cl_info : (Tryd.prog.info? 91).map (fun i => (i.zero, i.size, i.bytes)) = some (some (.agg #[.int .u32 0, .int .u32 0]), 2, 8) := by kernel_rfl
theorem RPost.ok_ {α : Type} {w0 w : World} {p m : Nat} {bs : List Int} {mk : α → World → Value → Prop} {r : Except (Int × Int) (α × Nat)} {x : α} {s : Nat} {f : FuncId} {args : Array Value} (hr : r = .ok (x, s)) (h : Calls Tryd.prog f args w (RPost w0 w p m bs mk r)) :
    Calls Tryd.prog f args w fun e w' => Below w0.heap.size w0 w' ∧ Kept w w' (fun k => k = p) ∧ RSt w0 w' p bs s m ∧ ∃ v, e = .returned v ∧ mk x w' v := by
  subst hr
  exact h
theorem RPost.er_ {α : Type} {w0 w : World} {p m : Nat} {bs : List Int} {mk : α → World → Value → Prop} {r : Except (Int × Int) (α × Nat)} {x : Int × Int} {f : FuncId} {args : Array Value} (hr : r = .error x) (h : Calls Tryd.prog f args w (RPost w0 w p m bs mk r)) :
    Calls Tryd.prog f args w fun e w' => e = refuse x.1 x.2 ∧ Below w0.heap.size w0 w' ∧ Kept w w' (fun k => k = p) := by
  subst hr
  exact h.mono fun e w' ⟨h1, h2, h3⟩ => ⟨h3, h1, h2⟩
theorem number_ok {w0 : World} {p : Nat} {bs : List Int} {s m n s2 : Nat} {w : World} (hq : numS bs s = .ok (n, s2)) (hb : Below w0.heap.size w0 w) (hr : RSt w0 w p bs s m) :
    Calls Tryd.prog 23 #[.pointer (some ⟨p, 0, none⟩)] w fun e w' => e = .returned (.int .i64 (n : Int)) ∧ Below w0.heap.size w0 w' ∧ Kept w w' (fun k => k = p) ∧ RSt w0 w' p bs s2 m :=
  (RPost.ok_ hq (source_number w0 p bs s m w hb hr)).mono fun e w' ⟨h1, h2, h3, v, h4, h5⟩ => ⟨by rw [h4, h5], h1, h2, h3⟩
theorem number_er {w0 : World} {p : Nat} {bs : List Int} {s m : Nat} {x : Int × Int} {w : World} (hq : numS bs s = .error x) (hb : Below w0.heap.size w0 w) (hr : RSt w0 w p bs s m) :
    Calls Tryd.prog 23 #[.pointer (some ⟨p, 0, none⟩)] w fun e w' => e = refuse x.1 x.2 ∧ Below w0.heap.size w0 w' ∧ Kept w w' (fun k => k = p) :=
  RPost.er_ hq (source_number w0 p bs s m w hb hr)
theorem numG_le {bs : List Int} {a : Nat} : ∀ (k n i s : Nat) {r s2 : Nat}, numG bs a k n i s = .ok (r, s2) → r ≤ 2147483647
  | 0, _, _, _, _, _, h => by cases h
  | k + 1, n, i, s, r, s2, h => by
    rw [numG] at h
    split at h
    · split at h
      · cases h
      · split at h
        · cases h
          omega
        · exact numG_le k _ _ _ h
    · cases h
theorem numS_le {bs : List Int} {s r s2 : Nat} (h : numS bs s = .ok (r, s2)) : r ≤ 2147483647 := numG_le _ _ _ _ h
/-- Clauses, so many. -/
def clsG (bs : List Int) : Nat → List Cl → Nat → Except (Int × Int) (List Cl × Nat)
  | 0, acc, s => .ok (acc, s)
  | n + 1, acc, s => match numS bs s with
    | .error e => .error e
    | .ok (a, s1) => match numS bs s1 with
      | .error e => .error e
      | .ok (b, s2) => clsG bs n (acc ++ [⟨(a : Int), (b : Int)⟩]) s2
def finR (right : List Cl → Bool) (s : Nat) : Except (Int × Int) (List Cl × Nat) → Except (Int × Int) (List Cl × Nat)
  | .error e => .error e
  | .ok (f, s2) => if right f = true then .ok (f, s2) else .error ((s : Int), 61)
/-- A row. -/
def rowS (right : List Cl → Bool) (bs : List Int) (s : Nat) : Except (Int × Int) (List Cl × Nat) :=
  match numS bs s with
  | .error e => .error e
  | .ok (n, s1) => if 64 < n then .error ((s : Int), 61) else finR right s (clsG bs n [] s1)
def rowV (base : Nat) (f : List Cl) (w : World) (v : Value) : Prop := Kd.R k91 91 w base (fun _ => True) v f
theorem u32w {a : Int} (h0 : 0 ≤ a) (h1 : a ≤ 2147483647) : IntKind.u32.wrap a = a := by
  simp [IntKind.wrap, IntKind.bits, IntKind.signed]
  omega
theorem R_stay {α : Type} {d : Kd α} {e base : Nat} {w w1 : World} {v : Value} {xs : List α} {S : Nat → Prop} (h : d.R e w base (fun _ => True) v xs) (hk : Kept w w1 S) (hS : ∀ k, S k → k < base) : d.R e w1 base (fun _ => True) v xs :=
  Kd.R_mono (ok := fun k => True ∧ base ≤ k ∧ k < w.heap.size ∧ ∃ q, q ∈ e :: d.E ∧ ∃ cells, w.heap[k]? = some (.cells cells q (0, 0))) (Kd.R_kept (Kd.R_bound h) hk (fun k hk1 hk2 => by have := hS k hk2; omega)) (fun _ _ => trivial)
theorem M_stay {α : Type} {d : Kd α} {base : Nat} {w w1 : World} {x : α} {cs : List Value} {S : Nat → Prop} (h : d.M w base (fun _ => True) x cs) (hk : Kept w w1 S) (hS : ∀ k, S k → k < base) : d.M w1 base (fun _ => True) x cs :=
  d.M_mono (ok := fun k => True ∧ base ≤ k ∧ k < w.heap.size ∧ ∃ q, q ∈ d.E ∧ ∃ cells, w.heap[k]? = some (.cells cells q (0, 0))) (fun _ _ => trivial) (Kd.M_kept (d.M_bound h) hk (fun k hk1 hk2 => by have := hS k hk2; omega))
theorem two_set1 {w : World} {b t : Nat} {u0 u1 : Value} (h : w.heap[b]? = some (.cells #[u0, u1] t (0, 0))) (u : Value) : (w.setCell ⟨b, 1, none⟩ u).heap[b]? = some (.cells #[u0, u] t (0, 0)) := by
  have hlt := lt_of_block h
  have h' : w.heap[b] = .cells #[u0, u1] t (0, 0) := by simpa [Array.getElem?_eq_getElem hlt] using h
  show (w.heap.modify b _)[b]? = _
  rw [Array.getElem?_eq_getElem (by simpa using hlt), Array.getElem_modify_self, h']
  rfl
theorem cells2 {w : World} {b t : Nat} {u0 u1 : Value} (h : w.heap[b]? = some (.cells #[u0, u1] t (0, 0))) : w.cell? ⟨b, 0, none⟩ = some u0 ∧ w.cell? ⟨b, 1, none⟩ = some u1 ∧ w.frozen? ⟨b, 0, none⟩ = false ∧ w.frozen? ⟨b, 1, none⟩ = false := by
  simp [World.cell?, World.frozen?, h]
theorem app_keep {W w1 : World} {base : Nat} {v : Value} (hg : W.grownBy w1 v.ownBlock) (hbase : ∀ k, v.ownBlock = some k → base ≤ k) : Kept W w1 (fun k => base ≤ k) :=
  ⟨hg.size, fun i hi hn => hg.block i hi (fun he => hn (hbase i he.symm))⟩
theorem below_up {w0 W w1 : World} {base : Nat} (h : Below w0.heap.size w0 W) (hb : Below base W w1) (hle : w0.heap.size ≤ base) : Below w0.heap.size w0 w1 := h.trans (hb.mono hle)
set_option maxHeartbeats 4000000 in
set_option maxRecDepth 100000 in
theorem reader_row (F : FuncId) (right : List Cl → Bool) (PF : List Cl → Prop) (HF : ∀ (A : Option Addr) (c : Nat) (l : List Cl) (w : World), Kd.C k91 w A l.length l → l.length ≤ c → PF l → Calls Tryd.prog F #[.slice A l.length c] w fun e w' => e = .returned (.bool (right l)) ∧ Below w.heap.size w w')
    (eg : ∀ args w, (callFunc F args).run Tryd.prog w = .ok (.enter F args) w) (w0 : World) (p : Nat) (bs : List Int) (s m : Nat) (w : World) (hpf : ∀ (f : List Cl), f.length ≤ 64 → (∀ x ∈ f, 0 ≤ x.f0 ∧ x.f0 ≤ 2147483647 ∧ 0 ≤ x.f1 ∧ x.f1 ≤ 2147483647) → PF f) (hb : Below w0.heap.size w0 w) (hr : RSt w0 w p bs s m) :
    Calls Tryd.prog 47 #[.pointer (some ⟨p, 0, none⟩), .func (.func F) #[] #[]] w (RPost w0 w p m bs (rowV w.heap.size) (rowS right bs s)) := by
  obtain ⟨A, c, hv, hc, hC0⟩ := hr.row
  obtain ⟨c0, c1, c2, f0, f1, f2⟩ := cells3 hv
  have hpw : Aside0 (p < w.heap.size) := ⟨hr.lt⟩
  have hw0p : Aside0 (w0.heap.size ≤ w.heap.size) := ⟨hb.size⟩
  rcases hq : numS bs s with x | ⟨n, s1⟩
  · have hcn := number_er hq hb hr
    have HE : Aside0 (rowS right bs s = .error x) := ⟨by rw [rowS, hq]⟩
    clear hr hb hv hc hC0 hq HF hpf
    go_enter Tryd.func47, Tryd.ntmps47
    go_wp2_with (go_at_call 23; refine hcn.mono ?_; rintro e w1 ⟨rfl, hb1, hk1⟩)
    rename_i hq9
    cases hq9
    simp only [bodyPost]
    exact ⟨trivial, RPost.err HE.out hb1 hk1⟩
  · have hcn := number_ok hq hb hr
    have hn := numS_le hq
    by_cases h64 : 64 < n
    · have HE : Aside0 (rowS right bs s = .error ((s : Int), 61)) := ⟨by rw [rowS, hq]; exact if_pos h64⟩
      have h64' : (64 : Int) < (n : Int) := by omega
      clear hr hb hv hc hC0 hq HF hpf h64
      go_enter Tryd.func47, Tryd.ntmps47
      go_wp2_with (first | (go_at_call 23; refine hcn.mono ?_; rintro e w1 ⟨rfl, hb1, hk1, hr1⟩; have HB1 := Aside0.mk hb1; have HK1 := Aside0.mk hk1; clear hb1 hk1 hr1 hcn) | ((with_reducible refine (source_fail _ _ _ _).mono ?_); rintro e w2 ⟨rfl, rfl⟩))
      rename_i hq9
      cases hq9
      simp only [bodyPost]
      exact ⟨trivial, RPost.no HE.out HB1.out HK1.out⟩
    · have HE : Aside0 (rowS right bs s = finR right s (clsG bs n [] s1)) := ⟨by rw [rowS, hq]; exact if_neg h64⟩
      have h64' : ¬ (64 : Int) < (n : Int) := by omega
      have HFF := Aside0.mk HF
      have HPF := Aside0.mk hpf
      clear hr hb hv hc hC0 hq HF hpf
      go_enter Tryd.func47, Tryd.ntmps47
      go_wp2_with (go_at_call 23; refine hcn.mono ?_; rintro e w1 ⟨rfl, hb1, hk1, hr1⟩; have HB1 := Aside0.mk hb1; have HK1 := Aside0.mk hk1; have HR1 := Aside0.mk hr1; clear hb1 hk1 hr1 hcn)
      clear c0 c1 c2 f0 f1 f2
      have HS1 : Aside0 (w.heap.size ≤ w1.heap.size) := ⟨HK1.out.1⟩
      go_loopg [7, 26] (n + 1) (fun kq v7 v26 wx => ∃ (i : Nat) (acc : List Cl) (s2 : Nat), v26 = .int .i64 (i : Int) ∧ i ≤ n ∧ kq + i = n + 1 ∧ acc.length = i ∧ Aside0 (clsG bs (n - i) acc s2 = clsG bs n [] s1) ∧ Aside0 (∀ x ∈ acc, 0 ≤ x.f0 ∧ x.f0 ≤ 2147483647 ∧ 0 ≤ x.f1 ∧ x.f1 ≤ 2147483647) ∧ Aside0 (RSt w0 wx p bs s2 m) ∧ Aside0 (Below w0.heap.size w0 wx) ∧ Aside0 (Kept w wx (fun k => k = p)) ∧ Aside0 (Kd.R k91 91 wx w.heap.size (fun _ => True) v7 acc))
      case atStart => exact ⟨0, [], s1, rfl, Nat.zero_le _, rfl, rfl, ⟨rfl⟩, ⟨fun x hx => absurd hx (by simp)⟩, HR1, HB1, HK1, ⟨Kd.R_nil _ _ _ _ _⟩⟩
      case round =>
        clear HR1 HB1 HK1
        obtain ⟨i, acc, s2, rfl, hi, hk, hal, HG, HU, HR, HB, HK, HO⟩ := hrel
        by_cases hlt : i < n
        · obtain ⟨d, hd⟩ : ∃ d, n - i = d + 1 := ⟨n - i - 1, by omega⟩
          have hd2 : d = n - (i + 1) := by omega
          have hG := HG.out
          rw [hd, clsG] at hG
          have hlt' : decide ((i : Int) < (n : Int)) = true := decide_eq_true (by omega)
          have hpr : Aside0 (p < wr.heap.size) := ⟨HR.out.lt⟩
          rcases h1 : numS bs s2 with x | ⟨a, s3⟩
          · have hcA := number_er h1 HB.out HR.out
            rw [h1] at hG
            have HE2 : Aside0 (rowS right bs s = .error x) := ⟨by rw [HE.out, ← hG]; rfl⟩
            clear hG h1 hd hd2
            go_wp2_with (go_at_call 23; refine hcA.mono ?_; rintro e wa ⟨rfl, hba, hka⟩)
            rename_i hq9
            cases hq9
            simp only [bodyPost]
            exact ⟨trivial, RPost.err HE2.out hba (HK.out.then_ hka (fun _ h => .inl h))⟩
          · have hcA := number_ok h1 HB.out HR.out
            have ha := numS_le h1
            have hau := u32w (a := (a : Int)) (by omega) (by omega)
            rw [h1] at hG
            rcases h2 : numS bs s3 with x | ⟨b, s4⟩
            · have hG2 : (Except.error x : Except (Int × Int) (List Cl × Nat)) = clsG bs n [] s1 := by simpa [h2] using hG
              have HE2 : Aside0 (rowS right bs s = .error x) := ⟨by rw [HE.out, ← hG2]; rfl⟩
              have H2 := Aside0.mk h2
              clear hG hG2 h1 h2 hd hd2
              go_wp2_with (first | (go_at_call 23; refine hcA.mono ?_; rintro e wa ⟨rfl, hba, hka, hra⟩; have hcB := number_er H2.out (below_alloc hba (.cells #[.int .u32 (a : Int), .int .u32 0] 91)) (hra.below (below_alloc (Below.refl _ _) (.cells #[.int .u32 (a : Int), .int .u32 0] 91))); have HKA := Aside0.mk ((HK.out.then_ hka (fun _ h => .inl h)).alloc (.cells #[.int .u32 (a : Int), .int .u32 0] 91)); clear hba hka hra hcA) | (go_at_call 23; refine hcB.mono ?_; rintro e wb ⟨rfl, hbb, hkb⟩))
              rename_i hq9
              cases hq9
              simp only [bodyPost]
              exact ⟨trivial, RPost.err HE2.out hbb (HKA.out.then_ hkb (fun _ h => .inl h))⟩
            · have hG2 : clsG bs (n - (i + 1)) (acc ++ [⟨(a : Int), (b : Int)⟩]) s4 = clsG bs n [] s1 := by rw [← hd2]; simpa [h2] using hG
              have HG2 := Aside0.mk hG2
              have hb0 := numS_le h2
              have hbu := u32w (a := (b : Int)) (by omega) (by omega)
              have H2 := Aside0.mk h2
              have HU2 : Aside0 (∀ x ∈ acc ++ [(⟨(a : Int), (b : Int)⟩ : Cl)], 0 ≤ x.f0 ∧ x.f0 ≤ 2147483647 ∧ 0 ≤ x.f1 ∧ x.f1 ≤ 2147483647) := ⟨fun x hx => by
                rcases List.mem_append.1 hx with hx | hx
                · exact HU.out x hx
                · rw [List.mem_singleton.1 hx]
                  exact ⟨by show (0 : Int) ≤ (a : Int); omega, by show (a : Int) ≤ 2147483647; omega, by show (0 : Int) ≤ (b : Int); omega, by show (b : Int) ≤ 2147483647; omega⟩⟩
              clear hG hG2 h1 h2 hd hd2
              go_wp2_with (first | (go_at_call 23; refine hcA.mono ?_; rintro e wa ⟨rfl, hba, hka, hra⟩; have hcB := number_ok H2.out (below_alloc hba (.cells #[.int .u32 (a : Int), .int .u32 0] 91)) (hra.below (below_alloc (Below.refl _ _) (.cells #[.int .u32 (a : Int), .int .u32 0] 91))); have HKA := Aside0.mk (hka.alloc (.cells #[.int .u32 (a : Int), .int .u32 0] 91)); have HNA := Aside0.mk (blk_new wa (.cells #[.int .u32 (a : Int), .int .u32 0] 91)); have HSA : Aside0 (wr.heap.size ≤ wa.heap.size) := ⟨hka.1⟩; clear hba hka hra hcA) | (go_at_call 23; refine hcB.mono ?_; rintro e wb ⟨rfl, hbb, hkb, hrb⟩; have HNB := Aside0.mk (blk_kept HNA.out hkb (by have := HSA.out; have := hpr.out; omega)); obtain ⟨d0, d1, g0, g1⟩ := cells2 HNB.out; have HKB := Aside0.mk (HKA.out.then_ hkb (fun _ h => .inl h)); have HBB := Aside0.mk hbb; have HRB := Aside0.mk hrb; have HKW := Aside0.mk (HKB.out.setCell (p := ⟨wa.heap.size, 1, none⟩) (.inr HSA.out) (.int .u32 (b : Int))); have HOW := Aside0.mk (R_stay HO.out HKW.out (fun k hk => by rw [hk]; exact hpw.out)); have HBW := Aside0.mk (HBB.out.setCell (p := ⟨wa.heap.size, 1, none⟩) (by have := HB.out.size; have := HSA.out; show w0.heap.size ≤ wa.heap.size; omega) (.int .u32 (b : Int))); have HRW := Aside0.mk (HRB.out.kept (Kept.setCell (Kept.refl wb (fun k => k = wa.heap.size)) (p := ⟨wa.heap.size, 1, none⟩) (.inl rfl) (.int .u32 (b : Int))) (by have := HSA.out; have := hpr.out; omega)); have HKWW := Aside0.mk (HK.out.then_ HKW.out (fun _ h => .inl h)); clear hbb hkb hrb hcB) | (at_builtin; refine Kd.R_append k91 (w0 := wb.setCell ⟨wa.heap.size, 1, none⟩ (.int .u32 (b : Int))) w.heap.size rfl (.tmp 40) (.tmp 42) 41 91 (.agg #[.int .u32 0, .int .u32 0]) 8 rfl Tryd.underlying41 cl_info rfl (by decide) (by omega) u7 acc ⟨(a : Int), (b : Int)⟩ [.int .u32 (a : Int), .int .u32 (b : Int)] (fun _ => True) (fun _ => False) rfl (by rw [World.size_setCell]; rfl) (k91_mkM _ _ _ _) (fun _ hk => hk.elim) (fun _ _ => trivial) HOW.out (Below.refl _ _) HKWW.out.1 (by omega) ?_; intro v1 wc ho hb1 hg hat; have HOC := Aside0.mk ho; have HAC := Aside0.mk (app_keep hg (Kd.R_base HOW.out)); have HBC := Aside0.mk (below_up HBW.out hb1 hw0p.out); clear ho hb1 hg hat))
              go_roundg (gk - 1)
              case measure => omega
              case rel => exact ⟨i + 1, acc ++ [⟨(a : Int), (b : Int)⟩], s4, rfl, by omega, by omega, by simp [hal], HG2, HU2, ⟨HRW.out.kept HAC.out (by have := hpw.out; omega)⟩, HBC, ⟨HKWW.out.then_ HAC.out (fun _ h => .inr h)⟩, HOC⟩
        · have hlt' : decide ((i : Int) < (n : Int)) = false := decide_eq_false (by omega)
          have hG := HG.out
          rw [show n - i = 0 by omega, clsG] at hG
          obtain ⟨A4, c4, rfl⟩ := Kd.R_slice HO.out
          have hrd := Kd.R_reads' HO.out
          have hcf := HFF.out A4 c4 acc wr hrd.2.2 hrd.2.1 (HPF.out acc (by omega) HU.out)
          have hG3 : Aside0 (rowS right bs s = if right acc = true then .ok (acc, s2) else .error ((s : Int), 61)) := ⟨by rw [HE.out, ← hG]; rfl⟩
          rw [hal] at hcf
          clear hG hrd
          cases hra : right acc
          · rw [hra] at hcf
            have HE2 : Aside0 (rowS right bs s = .error ((s : Int), 61)) := ⟨by rw [hG3.out, hra]; rfl⟩
            clear hG3 hra
            go_wp2_with (first | (go_at_fn F; refine hcf.mono ?_; rintro e wd ⟨rfl, hbd⟩; have HBD := Aside0.mk (below_step HB.out hbd); have HKD := Aside0.mk (HK.out.below hbd); clear hbd hcf) | ((with_reducible refine (source_fail _ _ _ _).mono ?_); rintro e w2 ⟨rfl, rfl⟩))
            rename_i hq9
            cases hq9
            simp only [bodyPost]
            exact ⟨trivial, RPost.no HE2.out HBD.out HKD.out⟩
          · rw [hra] at hcf
            have HE2 : Aside0 (rowS right bs s = .ok (acc, s2)) := ⟨by rw [hG3.out, hra]; rfl⟩
            clear hG3 hra
            go_wp2_with (go_at_fn F; refine hcf.mono ?_; rintro e wd ⟨rfl, hbd⟩; have HBD := Aside0.mk (below_step HB.out hbd); have HKD := Aside0.mk (HK.out.below hbd); have HRD := Aside0.mk (HR.out.below hbd); have HOD := Aside0.mk (Kd.R_below HO.out hbd); clear hbd hcf)
            go_ret
            exact RPost.yes HE2.out HBD.out HKD.out HRD.out (by have h9 := HOD.out; rw [hal] at h9; exact h9)
end Go.Proofs.YtahdjajdaggmjaaDoor.XPo
