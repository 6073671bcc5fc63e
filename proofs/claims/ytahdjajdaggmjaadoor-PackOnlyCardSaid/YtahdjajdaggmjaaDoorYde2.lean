/-
Walk: pack.Decode.
-/
import Derived.Test.YtahdjajdaggmjaaDoorYrec
import Derived.Test.YtahdjajdaggmjaaDoorYent
set_option linter.unusedVariables false
set_option linter.unusedSimpArgs false
namespace Go.Proofs.YtahdjajdaggmjaaDoor.XPo
open Go.RowKit Go.Proofs.YtahdjajdaggmjaaDoorW.PrintWords Go.Proofs.YtahdjajdaggmjaaDoorW.PrintLast Go.Proofs.YtahdjajdaggmjaaDoorW.PrintMore

theorem Res3.made (w : World) (v : Value) (a e : Int) : Res3 (((w.alloc (.cells #[v] 29)).alloc (.cells #[.int .i64 a] 3)).alloc (.cells #[.int .i64 e] 26)) w.heap.size v a e := by
  refine ⟨?_, ?_, ?_⟩
  · exact blk_below (blk_below (blk_new w _) (below_alloc (Below.refl _ _) _)) (below_alloc (Below.refl _ _) _)
  · exact blk_below (by have := blk_new (w.alloc (.cells #[v] 29)) (.cells #[.int .i64 a] 3); simpa using this) (below_alloc (Below.refl _ _) _)
  · have := blk_new ((w.alloc (.cells #[v] 29)).alloc (.cells #[.int .i64 a] 3)) (.cells #[.int .i64 e] 26)
    simpa using this
theorem made_below (w : World) (v : Value) (a e : Int) : Below w.heap.size w (((w.alloc (.cells #[v] 29)).alloc (.cells #[.int .i64 a] 3)).alloc (.cells #[.int .i64 e] 26)) := below_alloc (below_alloc (below_alloc (Below.refl w.heap.size w) _) _) _
def OnlyN (Q : Exit → Act → World → Prop) : Exit → Act → World → Prop
  | .normal, a, w => Q .normal a w
  | _, _, _ => False
theorem only_of {Q : Exit → Act → World → Prop} {a : Act} {w : World} (h : Q .normal a w) : OnlyN Q .normal a w := h
theorem only_n {P : Program} {c : Code} {a : Act} {w : World} {Q : Exit → Act → World → Prop} (h : c.wp P (OnlyN Q) a w) : c.wp P Q a w :=
  Code.wp_mono (fun e a w h => by cases e <;> first | exact h | exact h.elim) h
theorem strNums_ne {xs ys : List Int} (hx : ∀ x ∈ xs, 0 ≤ x ∧ x < 256) (hy : ∀ x ∈ ys, 0 ≤ x ∧ x < 256) (h : xs ≠ ys) : ((strOfNums xs).toList == (strOfNums ys).toList) = false := by
  rw [Bool.eq_false_iff, ne_eq, beq_iff_eq, ByteArray.toList_eq, ByteArray.toList_eq]
  have back : ∀ {zs : List Int}, (∀ x ∈ zs, 0 ≤ x ∧ x < 256) → (strOfNums zs).data.toList.map (fun b => ((b.toNat : Nat) : Int)) = zs := by
    intro zs hz
    simp only [strOfNums, List.map_map]
    conv => rhs; rw [← List.map_id zs]
    refine List.map_congr_left fun x hx => ?_
    obtain ⟨h0, h1⟩ := hz x hx
    simp only [Function.comp, id]
    rw [UInt8.toNat_ofNat_of_lt' (by show x.toNat < 256; omega)]
    omega
  exact fun e => h (by rw [← back hx, ← back hy, e])
/-- The results at the function's end. -/
theorem res3_out {w : World} {g : Nat} {v : Value} {a e : Int} (h : Res3 w g v a e) (x0 x1 : Value) (ts : List Value) :
    (results Tryd.f10 ⟨x0 :: x1 :: .pointer (some ⟨g, 0, none⟩) :: .pointer (some ⟨g + 1, 0, none⟩) :: .pointer (some ⟨g + 2, 0, none⟩) :: ts⟩).run Tryd.prog w = .ok (.tuple #[v, .int .i64 a, .int .i64 e]) w := by
  have h0 := cell_of_one h.1
  have h1 := cell_of_one h.2.1
  have h2 := cell_of_one h.2.2
  simp [results, Tryd.results10, go_sem, h0, h1, h2]
def upD (n k : Nat) : Array Bool := (List.replicate k true ++ List.replicate (n - k) false).toArray
def upY (n k j : Nat) : Array Bool := ((List.range n).map fun i => decide (i < k) && i != j).toArray
/-- The three bytes at the beginning. -/
def headB (bs : List Int) : Option Int := if rd bs 0 ≠ 72 then some 0 else if rd bs 1 ≠ 67 then some 1 else if rd bs 2 ≠ 1 then some 2 else none
theorem headB_of {bs : List Int} (h : rd bs 0 = 72 ∧ rd bs 1 = 67 ∧ rd bs 2 = 1) : headB bs = none := by
  simp [headB, h]
theorem lit_made (w2 : World) (o : Obj) : (((w2.alloc (.map #[] 0)).alloc o).alloc (.cells #[.int .u8 72, .int .u8 67, .int .u8 1] 5)).heap[w2.heap.size + 1 + 1]? = some (.cells #[.int .u8 72, .int .u8 67, .int .u8 1] 5 (0, 0)) := by
  have := blk_new ((w2.alloc (.map #[] 0)).alloc o) (.cells #[.int .u8 72, .int .u8 67, .int .u8 1] 5)
  simpa using this
theorem en_info : (Tryd.prog.info? 54).map (fun i => (i.zero, i.size, i.bytes)) = some (some (.agg #[.string ⟨#[]⟩, .int .i64 0, .int .i64 0, .string ⟨#[]⟩, .slice none 0 0, .slice none 0 0, .slice none 0 0, .int .i64 0, .int .i64 0, .string ⟨#[]⟩, .slice none 0 0, .slice none 0 0, .slice none 0 0]), 13, 224) := by kernel_rfl
theorem en_cells {w : World} {base : Nat} {x : En} {cs : List Value} (h : k54.M w base (fun _ => True) x cs) : ∃ P3 px3 P4 px4 P5 px5 Q3 qx3 Q4 qx4 Q5 qx5, cs = [.string x.f0, .int .i64 x.f1.f0, .int .i64 x.f1.f1, .string x.f1.f2, .slice P3 x.f1.f3.length px3, .slice P4 x.f1.f4.length px4, .slice P5 x.f1.f5.length px5, .int .i64 x.f2.f0, .int .i64 x.f2.f1, .string x.f2.f2, .slice Q3 x.f2.f3.length qx3, .slice Q4 x.f2.f4.length qx4, .slice Q5 x.f2.f5.length qx5] := by
  obtain ⟨c0, c1, rfl, h0, c2, c3, rfl, h1, h2⟩ := h
  obtain ⟨P3, px3, P4, px4, P5, px5, rfl⟩ := tm_cells h1
  obtain ⟨Q3, qx3, Q4, qx4, Q5, qx5, rfl⟩ := tm_cells h2
  obtain rfl : c0 = [.string x.f0] := h0
  exact ⟨P3, px3, P4, px4, P5, px5, Q3, qx3, Q4, qx4, Q5, qx5, rfl⟩
/-- Entries, so many. -/
def entsS (nb : ByteArray → Bool) (fr fa : List Cl → Bool) (rt : Tm → Int) (bs : List Int) : Nat → List En → Nat → Except (Int × Int) (List En × Nat)
  | 0, acc, s => .ok (acc, s)
  | n + 1, acc, s => match entS nb fr fa rt bs (acc.map (·.f0)).reverse s with
    | .error e => .error e
    | .ok (x, s1) => entsS nb fr fa rt bs n (acc ++ [x]) s1
theorem entsS_ok {nb : ByteArray → Bool} {fr fa : List Cl → Bool} {rt : Tm → Int} {bs : List Int} {n s s1 : Nat} {acc : List En} {x : En} (h : entS nb fr fa rt bs (acc.map (·.f0)).reverse s = .ok (x, s1)) : entsS nb fr fa rt bs (n + 1) acc s = entsS nb fr fa rt bs n (acc ++ [x]) s1 := by
  rw [entsS, h]
theorem entsS_er {nb : ByteArray → Bool} {fr fa : List Cl → Bool} {rt : Tm → Int} {bs : List Int} {n s : Nat} {acc : List En} {y : Int × Int} (h : entS nb fr fa rt bs (acc.map (·.f0)).reverse s = .error y) : entsS nb fr fa rt bs (n + 1) acc s = .error y := by
  rw [entsS, h]
def endS (bs : List Int) : Except (Int × Int) (List En × Nat) → Except (Int × Int) (List En)
  | .error e => .error e
  | .ok (l, s) => if s < bs.length then .error ((s : Int), 61) else .ok l
/-- What stands ahead of the sum. -/
def bodyS (nb : ByteArray → Bool) (fr fa : List Cl → Bool) (rt : Tm → Int) (bs : List Int) : Except (Int × Int) (List En) :=
  match headB bs with
  | some a => .error (a, 61)
  | none => match numS bs 3 with
    | .error e => .error e
    | .ok (n, s) => endS bs (entsS nb fr fa rt bs n [] s)
def outD : Except (Int × Int) (List En) → List En × Int × Int
  | .error e => ([], e.1, e.2)
  | .ok l => (l, 0, 0)
/-- What Decode answers. -/
def decI (nb : ByteArray → Bool) (fr fa : List Cl → Bool) (rt : Tm → Int) (sl : List Int → List Int) (l : List Int) : List En × Int × Int :=
  if 1048576 < l.length then ([], 0, 3) else if l.length < 8 then ([], 0, 61) else if sl (l.take (l.length - 4)) ≠ l then ([], ((l.length - 4 : Nat) : Int), 271)
  else outD (bodyS nb fr fa rt (l.take (l.length - 4)))
/-! ### A panic looks at the results' slots alone -/
def PanQ (Q : Exit → Act → World → Prop) : Exit → Act → World → Prop
  | .panic c, a, w => ∀ a' : Act, a'.defers = a.defers → a'.tmps[2]? = a.tmps[2]? → a'.tmps[3]? = a.tmps[3]? → a'.tmps[4]? = a.tmps[4]? → Q (.panic c) a' w
  | e, a, w => Q e a w
theorem panq_of {Q : Exit → Act → World → Prop} {a : Act} {w : World} (h : Q .normal a w) : PanQ Q .normal a w := h
theorem panq_n {P : Program} {c : Code} {a : Act} {w : World} {Q : Exit → Act → World → Prop} (h : c.wp P (PanQ Q) a w) : c.wp P Q a w :=
  Code.wp_mono (fun e a w h => by cases e <;> first | exact h | exact h a rfl rfl rfl rfl) h
theorem put_tmp {a : Act} {d : Option Tmp} {v : Value} {j : Nat} (h : d ≠ some j) : (a.put d v).tmps[j]? = a.tmps[j]? := by
  cases d with
  | none => rfl
  | some i =>
    have hij : i ≠ j := fun e => h (by rw [e])
    show (a.tmps.setIfInBounds i v)[j]? = _
    rw [Array.getElem?_setIfInBounds_ne hij]
theorem put_defers {a : Act} {d : Option Tmp} {v : Value} : (a.put d v).defers = a.defers := by
  cases d <;> rfl
theorem panq_put {Q : Exit → Act → World → Prop} {oi : Oper} {v : Value} (hd : oi.dst ≠ some 2 ∧ oi.dst ≠ some 3 ∧ oi.dst ≠ some 4) : ∀ c a w, PanQ Q (.panic c) (a.put oi.dst v) w → PanQ Q (.panic c) a w :=
  fun c a w h a' h0 h2 h3 h4 => h a' (h0.trans put_defers.symm) (h2.trans (put_tmp hd.1).symm) (h3.trans (put_tmp hd.2.1).symm) (h4.trans (put_tmp hd.2.2).symm)
theorem res3_outA {w : World} {g : Nat} {v : Value} {a e : Int} (h : Res3 w g v a e) {tmps : Array Value} (h2 : tmps[2]? = some (.pointer (some ⟨g, 0, none⟩))) (h3 : tmps[3]? = some (.pointer (some ⟨g + 1, 0, none⟩))) (h4 : tmps[4]? = some (.pointer (some ⟨g + 2, 0, none⟩))) :
    (results Tryd.f10 tmps).run Tryd.prog w = .ok (.tuple #[v, .int .i64 a, .int .i64 e]) w := by
  obtain ⟨ts⟩ := tmps
  match ts, h2, h3, h4 with
  | x0 :: x1 :: x2 :: x3 :: x4 :: r, h2, h3, h4 =>
    obtain rfl : x2 = .pointer (some ⟨g, 0, none⟩) := by simpa using h2
    obtain rfl : x3 = .pointer (some ⟨g + 1, 0, none⟩) := by simpa using h3
    obtain rfl : x4 = .pointer (some ⟨g + 2, 0, none⟩) := by simpa using h4
    exact res3_out h x0 x1 r
  | [], h2, _, _ => simp at h2
  | [_], h2, _, _ => simp at h2
  | [_, _], h2, _, _ => simp at h2
  | [_, _, _], _, h3, _ => simp at h3
  | [_, _, _, _], _, _, h4 => simp at h4
theorem dec_panic {g : Nat} {v : Value} {a0 e0 at_ c : Int} {w : World} {tmps : Array Value} {R : Ending → World → Prop} {fv : Fn} {cap dargs : Array Value} (h2 : tmps[2]? = some (.pointer (some ⟨g, 0, none⟩))) (h3 : tmps[3]? = some (.pointer (some ⟨g + 1, 0, none⟩))) (h4 : tmps[4]? = some (.pointer (some ⟨g + 2, 0, none⟩))) (h : Res3 w g v a0 e0)
    (hi : ∀ w, (invoke (.fn fv cap) dargs).run Tryd.prog w = .ok (.enter 20 #[.pointer (some ⟨g, 0, none⟩), .pointer (some ⟨g + 1, 0, none⟩), .pointer (some ⟨g + 2, 0, none⟩)]) w)
    (hR : ∀ w', Res3 w' g (.slice none 0 0) at_ c → Below g w w' → R (.returned (.tuple #[.slice none 0 0, .int .i64 at_, .int .i64 c])) w') :
    Leaves Tryd.prog Tryd.f10 tmps R [{ target := .fn fv cap, args := dargs }] (.panicking [{ v := .iface 59 (.agg #[.int .i64 at_, .int .i64 c]), recovered := false }]) w := by
  refine leaves_cons (f := 20) (args := #[.pointer (some ⟨g, 0, none⟩), .pointer (some ⟨g + 1, 0, none⟩), .pointer (some ⟨g + 2, 0, none⟩)]) (by simp) (hi w) ?_
  refine (decode_catch g v a0 e0 at_ c w h).mono ?_
  rintro e u' w' ⟨rfl, rfl, hr, hk, hb⟩
  exact ⟨_, res3_outA hr h2 h3 h4, hR w' hr hb⟩
theorem rst_madeW (w w2 : World) (A0 : Option Addr) (c0 : Nat) (lt : List Int) (hw : w.heap.size ≤ w2.heap.size) (hC : Kd.C (Kd.int .u8) w A0 lt.length lt) (hc : lt.length ≤ c0) (hl : lt.length ≤ 1048576) (ho : ∀ x ∈ lt, 0 ≤ x ∧ x < 256) :
    RSt w (((w2.alloc (.map #[] 0)).alloc (.cells #[.slice A0 lt.length c0, .int .i64 0, .map (some w2.heap.size)] 66)).alloc (.cells #[.int .u8 72, .int .u8 67, .int .u8 1] 5)) (w2.heap.size + 1) lt 0 w2.heap.size := by
  refine ⟨by omega, ⟨A0, c0, ?_, hc, hC⟩, hl, Nat.zero_le _, ho⟩
  refine blk_below ?_ (below_alloc (Below.refl _ _) _)
  have := blk_new (w2.alloc (.map #[] 0)) (.cells #[.slice A0 lt.length c0, .int .i64 0, .map (some w2.heap.size)] 66)
  simpa using this
set_option maxHeartbeats 4000000 in
set_option maxRecDepth 100000 in
theorem pack_Decode {PN : ByteArray → Prop} {PF : List Cl → Prop} {PT : Tm → Prop} {PS : List Int → Prop} {nb : ByteArray → Bool} {fr fa : List Cl → Bool} {rt : Tm → Int} {sl : List Int → List Int} (RP : ReadP PN PF nb fr fa)
    (HR : ∀ (t : Tm) (cs : List Value) (w : World), k45.K w t cs → PT t → Calls Tryd.prog 27 #[.agg cs.toArray, .int .i64 0, .int .i64 0] w fun e w' => e = .returned (.int .i64 (rt t)) ∧ Below w.heap.size w w')
    (hsl : ∀ (u : Value) (l : List Int) (w0 w : World), Below w0.heap.size w0 w → Kd.R (Kd.int .u8) 5 w w0.heap.size (fun _ => True) u l → PS l →
    Calls Tryd.prog 19 #[u] w fun e w' => ∃ v, e = .returned v ∧ Kd.R (Kd.int .u8) 5 w' w0.heap.size (fun _ => True) v (sl l) ∧ Below w0.heap.size w0 w') (A0 : Option Addr) (c0 : Nat) (l : List Int) (w : World) (hT : Tab w) (hC : Kd.C (Kd.int .u8) w A0 l.length l) (hc : l.length ≤ c0)
    (hbl : l.length ≤ 1000000 ∨ 1048576 < l.length) (ho : ∀ x ∈ l, 0 ≤ x ∧ x < 256) (hps : PS (l.take (l.length - 4))) (hso : ∀ x ∈ sl (l.take (l.length - 4)), 0 ≤ x ∧ x < 256) (hpt : ∀ (s : Nat) (t : Tm) (s1 : Nat), termS nb fr fa (l.take (l.length - 4)) 200 s = .ok (t, s1) → PT t) :
    Calls Tryd.prog 10 #[.slice A0 l.length c0] w (fun e w' => ∃ v, e = .returned (.tuple #[v, .int .i64 (decI nb fr fa rt sl l).2.1, .int .i64 (decI nb fr fa rt sl l).2.2]) ∧ Kd.R k54 54 w' w.heap.size (fun _ => True) v (decI nb fr fa rt sl l).1 ∧ Below w.heap.size w w') := by
  have hmf : ∀ (fn : Fn) (first cap : Array Value) (w : World), (Instr.makeFunc fn first cap).run Tryd.prog w = .ok (.func fn first cap) w := fun _ _ _ _ => rfl
  have hmm := @run_makeMap Tryd.prog
  have HC := Aside0.mk hC
  have HTT := Aside0.mk hT
  have HRR := Aside0.mk HR
  clear hC hT HR
  go_enter_defers Tryd.func10, Tryd.ntmps10
  by_cases h1 : 1048576 < l.length
  · have h1' : (1048576 : Int) < (l.length : Int) := by omega
    have hd : decI nb fr fa rt sl l = ([], 0, 3) := by rw [decI, if_pos h1]
    have HD := Aside0.mk hd
    clear hd
    go_wp2
    exact ⟨_, res3_out (Res3.made w (.slice none 0 0) 0 3) _ _ _, .slice none 0 0, by rw [HD.out], by rw [HD.out]; exact Kd.R_nil _ _ _ _ _, made_below w _ _ _⟩
  · by_cases h2 : l.length < 8
    · have h1' : ¬ (1048576 : Int) < (l.length : Int) := by omega
      have h2' : (l.length : Int) < 8 := by omega
      have hd : decI nb fr fa rt sl l = ([], 0, 61) := by rw [decI, if_neg h1, if_pos h2]
      have HD := Aside0.mk hd
      clear hd
      go_wp2
      exact ⟨_, res3_out (Res3.made w (.slice none 0 0) 0 61) _ _ _, .slice none 0 0, by rw [HD.out], by rw [HD.out]; exact Kd.R_nil _ _ _ _ _, made_below w _ _ _⟩
    · have h1' : ¬ (1048576 : Int) < (l.length : Int) := by omega
      have h2' : ¬ (l.length : Int) < 8 := by omega
      have h4 : wrap64 ((l.length : Int) - 4) = (l.length : Int) - 4 := by unfold wrap64; omega
      have hR0 := Res3.made w (.slice none 0 0) 0 0
      have hB0 := made_below w (.slice none 0 0) 0 0
      have hS0 : (((w.alloc (.cells #[.slice none 0 0] 29)).alloc (.cells #[.int .i64 0] 3)).alloc (.cells #[.int .i64 0] 26)).heap.size = w.heap.size + 3 := by simp
      go_upto_if 0 with (fail)
      clear h4
      revert hR0 hB0 hS0
      generalize ((w.alloc (.cells #[.slice none 0 0] 29)).alloc (.cells #[.int .i64 0] 3)).alloc (.cells #[.int .i64 0] 26) = W0
      intro hR0 hB0 hS0
      have HR0 := Aside0.mk hR0
      have HB0 := Aside0.mk hB0
      have HS0 := Aside0.mk hS0
      clear hR0 hB0 hS0
      obtain ⟨lt, hlt⟩ : ∃ lt, lt = l.take (l.length - 4) := ⟨_, rfl⟩
      rw [← hlt] at hps hso hpt
      have HLL := Aside0.mk (show lt.length = l.length - 4 by rw [hlt, List.length_take]; omega)
      have hst : ∀ W, Below W0.heap.size W0 W → (convert 25 9 (.slice A0 l.length c0)).run Tryd.prog W = .ok (.string (strOfNums l)) W := fun W hW => Kd.C_string Tryd.underlying25 Tryd.underlying5 Tryd.underlying9 (Kd.C_below (Kd.C_below HC.out HB0.out) hW)
      have HCW := Aside0.mk (show Kd.C (Kd.int .u8) w A0 lt.length lt from by
        have h6 := Kd.C_take HC.out (m := l.length - 4) (by omega)
        rw [← hlt] at h6
        exact h6)
      have HCT := Aside0.mk (show ∀ W, Below W0.heap.size W0 W → ReadsRow ((Kd.int .u8).K W) (Kd.int .u8).sz W A0 lt.length lt from fun W hW => Kd.C_below (Kd.C_below HCW.out HB0.out) hW)
      have HLT := Aside0.mk (show (([] : List Int).length + lt.length) * 1 ≤ 140737488355328 by rw [HLL.out, List.length_nil]; omega)
      have HLT2 := Aside0.mk hlt
      have hcut : ∀ W : World, (Instr.slice 25 (.slice A0 l.length c0) none (some (.int .i64 ((l.length : Int) - 4))) none).run Tryd.prog W = .ok (.slice A0 lt.length c0) W := fun W => by
        obtain ⟨i5, hi5, hz5⟩ := Option.map_eq_some_iff.1 uint8_info
        simp only [Prod.mk.injEq] at hz5
        have h6 := (print_take_int (P := Tryd.prog) (k := .u8) 25 5 Tryd.underlying25 hi5 hz5.2.1 A0 c0 l ((l.length : Int) - 4) (by omega) (by omega) hc).1 W
        rw [show ((l.length : Int) - 4).toNat = l.length - 4 by omega, ← hlt] at h6
        exact h6
      clear hlt
      by_cases h3 : sl lt = l
      · have HDI : Aside0 (decI nb fr fa rt sl l = outD (bodyS nb fr fa rt lt)) := ⟨by rw [decI, if_neg h1, if_neg h2, ← HLT2.out, if_neg (fun e => e h3)]⟩
        refine only_n ?_
        refine start_ (n := 10) (S := fun w' => Below W0.heap.size W0 w') (ds := []) (upD 10 0) (by kernel_rfl) rfl (by kernel_rfl) (below_drew (Below.refl _ _)) (fun hHeld => ?_)
        refine pure_ (i := 0) (N := some 21) (v := ?_) (a' := ?_) (upD 10 1) rfl rfl (by kernel_rfl) (fun _ _ _ h => h) (Or.inl ⟨by rfl, ?_⟩) ?_ ?_
        (rotate_left; (intro w'; go_simp; with_reducible rfl); rotate_left; (simp only [Act.put, List.setIfInBounds_toArray, List.set_cons_zero, List.set_cons_succ]; rfl))
        refine pure_ (i := 1) (N := some 22) (v := ?_) (a' := ?_) (upD 10 2) rfl rfl (by kernel_rfl) (fun _ _ _ h => h) (Or.inl ⟨by rfl, ?_⟩) ?_ ?_
        (rotate_left; (intro w'; go_simp; with_reducible rfl); rotate_left; (simp only [Act.put, List.setIfInBounds_toArray, List.set_cons_zero, List.set_cons_succ]; rfl))
        refine pure_ (i := 6) (N := some 27) (v := ?_) (a' := ?_) #[true, true, false, false, false, false, true, false, false, false] rfl rfl (by kernel_rfl) (fun _ _ _ h => h) (Or.inl ⟨by rfl, ?_⟩) ?_ ?_
        (rotate_left; (intro w'; go_simp; with_reducible rfl); rotate_left; (simp only [Act.put, List.setIfInBounds_toArray, List.set_cons_zero, List.set_cons_succ]; rfl))
        refine take_ (i := 7) (N := some 28) (v := ?_) (a' := ?_) #[true, true, false, false, false, false, true, true, false, false] rfl rfl (by kernel_rfl) (fun _ _ _ h => h) (Or.inl ⟨by rfl, ?_⟩) hHeld ?_ ?_
        (rotate_left; (intro w' s0; have hs1 := hst w' s0; go_simp; with_reducible rfl); rotate_left; (simp only [Act.put, List.setIfInBounds_toArray, List.set_cons_zero, List.set_cons_succ]; rfl))
        refine pure_ (i := 2) (N := some 23) (v := ?_) (a' := ?_) #[true, true, true, false, false, false, true, true, false, false] rfl rfl (by kernel_rfl) (fun _ _ _ h => h) (Or.inl ⟨by rfl, ?_⟩) ?_ ?_
        (rotate_left; (intro w'; go_simp; with_reducible rfl); rotate_left; (simp only [Act.put, List.setIfInBounds_toArray, List.set_cons_zero, List.set_cons_succ]; rfl))
        refine one_ (i := 3) (N := some 24) #[true, true, true, true, false, false, true, true, false, false] rfl rfl (by kernel_rfl) (by decide) (fun K hK => ?_)
        refine Kd.R_append_rows_step (Kd.int .u8) (w0 := W0) W0.heap.size (by rfl) (.const (.slice none 0 0)) (.tmp 23) 25 5 (.int .u8 0) 1 rfl Tryd.underlying25 uint8_info rfl (by decide) (by decide) (.slice none 0 0) [] lt A0 lt.length c0 (fun _ => True) (fun _ => False) rfl rfl (Kd.R_nil _ _ _ _ _) (HCT.out _ hHeld) (fun _ _ h => h) (fun _ hk => hk.elim) (fun _ _ => trivial) hHeld hHeld.size HLT.out ?_
        intro v1 w1 hr1 hb1 hg1 hat1
        have HR1 := Aside0.mk hr1
        clear hr1 hat1
        have hHeld_ := hHeld
        refine hK.out _ _ hb1 (fun hHeld => ?_)
        clear hK K hHeld_
        refine norm_ (a' := ?_) ?_ ?_
        (rotate_left; (show Act.put _ (some 24) _ = _; simp only [Act.put, List.setIfInBounds_toArray, List.set_cons_zero, List.set_cons_succ]; rfl))
        refine one_ (i := 4) (N := some 25) (upY 10 8 5) rfl rfl (by kernel_rfl) (by decide) (fun K hK => ?_)
        refine goes_ Tryd.func19 (by kernel_rfl) rfl #[v1] (by rfl) rfl rfl (by (try simp only [List.map_toArray, List.map_cons, List.map_nil]); first | done | rfl) ?_
        with_reducible refine (hsl v1 lt W0 _ hHeld (by simpa using HR1.out) hps).mono ?_
        rintro e w2 ⟨v2, rfl, hr2, hb2⟩
        refine ⟨_, rfl, ?_⟩
        obtain ⟨A2, n2, c2, rfl⟩ := slice3 hr2
        have hcv := Kd.C_string Tryd.underlying25 Tryd.underlying5 Tryd.underlying9 (c := c2) (Kd.R_reads' hr2).2.2
        rw [← (Kd.R_reads' hr2).1] at hcv
        rw [h3] at hcv
        clear hr2
        have HB2_ := Aside0.mk hb2
        have hHeld_ := hHeld
        refine hK.out _ _ hb2 (fun hHeld => ?_)
        clear hK K hHeld_
        refine norm_ (a' := ?_) ?_ ?_
        (rotate_left; (show Act.put _ (some 25) _ = _; simp only [Act.put, List.setIfInBounds_toArray, List.set_cons_zero, List.set_cons_succ]; rfl))
        refine one_ (i := 5) (N := some 26) (upD 10 8) rfl rfl (by kernel_rfl) (by decide) (fun K hK => ?_)
        rw [if_pos (by rfl)]
        go_simp
        have hHeld_ := hHeld
        refine hK.out _ _ hHeld_ (fun hHeld => ?_)
        clear hK K hHeld_ hcv
        refine pure_ (i := 8) (N := some 29) (v := ?_) (a' := ?_) (upD 10 9) rfl rfl (by kernel_rfl) (fun _ _ _ h => h) (Or.inl ⟨by rfl, ?_⟩) ?_ ?_
        (rotate_left; (intro w'; go_simp; with_reducible rfl); rotate_left; (simp only [Act.put, List.setIfInBounds_toArray, List.set_cons_zero, List.set_cons_succ]; rfl))
        refine pure_ (i := 9) (N := some 20) (v := ?_) (a' := ?_) (upD 10 10) rfl rfl (by kernel_rfl) (fun _ _ _ h => h) (Or.inl ⟨by rfl, ?_⟩) ?_ ?_
        (rotate_left; (intro w'; go_simp; with_reducible rfl); rotate_left; (simp only [Act.put, List.setIfInBounds_toArray, List.set_cons_zero, List.set_cons_succ]; rfl))
        refine done_ (by kernel_rfl) ?_
        refine only_of ?_
        have h4 : wrap64 ((l.length : Int) - 4) = (l.length : Int) - 4 := by unfold wrap64; omega
        go_wp2
        have HBw := Aside0.mk (below_step HB0.out hHeld)
        have HSW : Aside0 (w.heap.size + 3 ≤ w2.heap.size) := ⟨by have := hHeld.size; have := HS0.out; omega⟩
        have HO := Aside0.mk (show ∀ x ∈ lt, 0 ≤ x ∧ x < 256 from fun x hx => by rw [HLT2.out] at hx; exact ho x (List.mem_of_mem_take hx))
        have HRd := Aside0.mk (rst_madeW w w2 A0 c0 lt (by have := HSW.out; omega) HCW.out (by rw [HLL.out]; omega) (by rw [HLL.out]; omega) HO.out)
        have hq := lit_made w2 (.cells #[.slice A0 lt.length c0, .int .i64 0, .map (some w2.heap.size)] 66)
        have hB3 := below_alloc (below_alloc (below_alloc HBw.out (.map #[] 0)) (.cells #[.slice A0 lt.length c0, .int .i64 0, .map (some w2.heap.size)] 66)) (.cells #[.int .u8 72, .int .u8 67, .int .u8 1] 5)
        have hL3 := below_alloc (below_alloc (below_alloc (Below.refl w2.heap.size w2) (.map #[] 0)) (.cells #[.slice A0 lt.length c0, .int .i64 0, .map (some w2.heap.size)] 66)) (.cells #[.int .u8 72, .int .u8 67, .int .u8 1] 5)
        have hRes := (HR0.out.below hHeld).below hL3
        have hM3 := ((MSt.made w2).below (below_alloc (Below.refl _ _) (.cells #[.slice A0 lt.length c0, .int .i64 0, .map (some w2.heap.size)] 66))).below (below_alloc (Below.refl _ _) (.cells #[.int .u8 72, .int .u8 67, .int .u8 1] 5))
        clear h4 hst hcut hHeld HB2_ HCT HLT HR0 HB0 hL3
        revert hq hB3 HRd hRes hM3
        generalize ((w2.alloc (.map #[] 0)).alloc (.cells #[.slice A0 lt.length c0, .int .i64 0, .map (some w2.heap.size)] 66)).alloc (.cells #[.int .u8 72, .int .u8 67, .int .u8 1] 5) = W3
        intro HRd hq hB3 hRes hM3
        have HB3 := Aside0.mk hB3
        have HRes := Aside0.mk hRes
        have HM3 := Aside0.mk hM3
        clear hB3 hRes hM3
        go_loopg [8, 43] 3 (fun kq v8 v43 w' => ∃ (j : Nat), v43 = .int .i64 (j : Int) ∧ j + kq = 3 ∧ Aside0 (RSt w w' (w2.heap.size + 1) lt j w2.heap.size) ∧ Aside0 (Below w.heap.size w w') ∧ Aside0 (Kept W3 w' (fun k => k = w2.heap.size + 1)) ∧ Aside0 ((1 ≤ j → rd lt 0 = 72) ∧ (2 ≤ j → rd lt 1 = 67) ∧ (3 ≤ j → rd lt 2 = 1)))
        case atStart => exact ⟨0, rfl, rfl, HRd, HB3, ⟨Kept.refl _ _⟩, ⟨fun h => absurd h (by omega), fun h => absurd h (by omega), fun h => absurd h (by omega)⟩⟩
        case round =>
          obtain ⟨j, rfl, hj, HR, HB, HK, HHD⟩ := hrel
          by_cases hj3 : j = 3
          · subst hj3
            clear hj HRd hq HB3
            have HHN : Aside0 (headB lt = none) := ⟨headB_of ⟨HHD.out.1 (by omega), HHD.out.2.1 (by omega), HHD.out.2.2 (by omega)⟩⟩
            have HR3 := Aside0.mk (HRes.out.kept HK.out (by have := HSW.out; omega))
            have HM := Aside0.mk (HM3.out.kept HK.out (by omega))
            clear HRes HM3 HHD
            rcases hn : numS lt 3 with y | ⟨n, s3⟩
            · have hd : decI nb fr fa rt sl l = ([], y.1, y.2) := by rw [HDI.out, bodyS, HHN.out, hn]; rfl
              have HD := Aside0.mk hd
              have hcE := number_er hn HB.out HR.out
              clear hd hn
              go_wp2_with (go_at_call 23; refine hcE.mono ?_; rintro e w4 ⟨rfl, hb4, hk4⟩)
              rename_i hq9
              cases hq9
              show Leaves Tryd.prog Tryd.f10 _ _ _ (.panicking _) _
              refine dec_panic (g := w.heap.size) rfl rfl rfl (HR3.out.kept hk4 (by have := HSW.out; omega)) (fun w' => by simp [go_sem]) ?_
              intro w' hr9 hb9
              exact ⟨.slice none 0 0, by rw [HD.out], by rw [HD.out]; exact Kd.R_nil _ _ _ _ _, (hb4).trans hb9⟩
            · have HDI2 : Aside0 (decI nb fr fa rt sl l = outD (endS lt (entsS nb fr fa rt lt n [] s3))) := ⟨by rw [HDI.out, bodyS, HHN.out, hn]⟩
              have hn31 := numS_le hn
              have hcE := number_ok hn HB.out HR.out
              clear hn
              go_wp2_with (go_at_call 23; refine hcE.mono ?_; rintro e w4 ⟨rfl, hb4, hk4, hr4⟩; have HB4 := Aside0.mk hb4; have HR4 := Aside0.mk hr4; have HR34 := Aside0.mk (HR3.out.kept hk4 (by have := HSW.out; omega)); have HM4 := Aside0.mk (HM.out.kept hk4 (by omega)); clear hb4 hk4 hr4 hcE)
              obtain ⟨B2, hB2⟩ : ∃ B2, B2 = w4.heap.size := ⟨_, rfl⟩
              have HPB : Aside0 (w.heap.size + 3 ≤ w2.heap.size ∧ w2.heap.size + 1 < B2) := ⟨HSW.out, by have := HR4.out.lt; omega⟩
              have HWB : Aside0 (w.heap.size ≤ B2) := ⟨by have := HPB.out; omega⟩
              have HB2S : Aside0 (B2 ≤ w4.heap.size) := ⟨by omega⟩
              clear HB HR HK HR3 HM hB2
              obtain ⟨go, rfl⟩ : ∃ go, go = gk := ⟨_, rfl⟩
              obtain ⟨wo, rfl⟩ : ∃ wo : World, wo = wr := ⟨_, rfl⟩
              go_loopg [73] (n + 1) (fun kq v73 wy => ∃ (i : Nat) (acc : List En) (s : Nat) (vs : Value), v73 = .int .i64 (i : Int) ∧ i ≤ n ∧ kq + i = n + 1 ∧ Aside0 (acc.length = i) ∧ Aside0 (entsS nb fr fa rt lt (n - i) acc s = entsS nb fr fa rt lt n [] s3) ∧ Aside0 (B2 ≤ wy.heap.size) ∧ Aside0 (RSt w wy (w2.heap.size + 1) lt s w2.heap.size) ∧ Aside0 (Below w.heap.size w wy) ∧ Aside0 (MSt wy w2.heap.size (acc.map (·.f0)).reverse) ∧ Aside0 (Res3 wy w.heap.size vs 0 0) ∧ Aside0 (Kd.R k54 54 wy B2 (fun _ => True) vs acc))
              case atStart => exact ⟨0, [], s3, .slice none 0 0, rfl, Nat.zero_le _, rfl, ⟨rfl⟩, ⟨rfl⟩, HB2S, HR4, HB4, HM4, HR34, ⟨Kd.R_nil _ _ _ _ _⟩⟩
              case round =>
                clear HB4 HR4 HR34 HM4 HB2S
                obtain ⟨i, acc, s, vs, rfl, hi, hk73, HAL, HG0, HBS, HR, HB, HM, HR3, HG⟩ := hrel
                obtain ⟨A55, n55, c55, rfl⟩ := slice3 HG.out
                have hlen : lt.length ≤ 1000000 := by have := HLL.out; omega
                have hal : acc.length ≤ 2147483647 := by have := HAL.out; omega
                by_cases hlt : i < n
                · have hlt' : decide ((i : Int) < (n : Int)) = true := decide_eq_true (by omega)
                  obtain ⟨dd, hdd2⟩ : ∃ dd, n - i = dd + 1 := ⟨n - i - 1, by omega⟩
                  have hdd3 : dd = n - (i + 1) := by omega
                  have hG := HG0.out
                  rw [hdd2] at hG
                  have hent := reader_entry RP HRR.out w (w2.heap.size + 1) w2.heap.size lt (acc.map (·.f0)).reverse HTT.out hpt hlen (by rw [List.length_reverse, List.length_map]; omega) s wr.drew (below_drew HB.out) (HR.out.below (below_drew (Below.refl _ _))) (HM.out.below (below_drew (Below.refl _ _))) (by have := HPB.out; omega) (by omega)
                  have hvs : wr.drew.cell? ⟨w.heap.size, 0, none⟩ = some (.slice A55 n55 c55) := cell_of_one HR3.out.1
                  have HR3d : Aside0 (Res3 wr.drew w.heap.size (.slice A55 n55 c55) 0 0) := HR3
                  have HGd := Aside0.mk (Kd.R_drew HG.out)
                  have HBSd : Aside0 (B2 ≤ wr.drew.heap.size) := HBS
                  clear HR3 HG HBS HR HB HM
                  rcases hq : entS nb fr fa rt lt (acc.map (·.f0)).reverse s with y | ⟨x, s4⟩
                  · have hG2 := (entsS_er (n := dd) hq).symm.trans hG
                    have hd : decI nb fr fa rt sl l = ([], y.1, y.2) := by rw [HDI2.out, ← hG2]; rfl
                    have HD := Aside0.mk hd
                    rw [hq] at hent
                    have hcE := hent
                    clear hd hG hG2 hq hent hdd2 hdd3
                    go_wp2
                    refine panq_n ?_
                    refine start_ (n := 6) (S := fun w' => w'.cell? ⟨w.heap.size, 0, none⟩ = some (.slice A55 n55 c55)) (ds := [5]) (upD 6 0) (by kernel_rfl) rfl (by kernel_rfl) (show wr.drew.cell? ⟨w.heap.size, 0, none⟩ = some (.slice A55 n55 c55) from hvs) (fun hHeld => ?_)
                    clear hvs
                    generalize wr.drew = wd at *
                    refine take_ (i := 0) (N := some 75) (v := ?_) (a' := ?_) (upD 6 1) rfl rfl (by kernel_rfl) (panq_put (by decide)) (Or.inl ⟨by rfl, ?_⟩) hHeld ?_ ?_
                    (rotate_left; (rintro w' s0; go_simp; with_reducible rfl); rotate_left; (simp only [Act.put, List.setIfInBounds_toArray, List.set_cons_zero, List.set_cons_succ]; rfl))
                    refine pure_ (i := 1) (N := some 76) (v := ?_) (a' := ?_) (upD 6 2) rfl rfl (by kernel_rfl) (panq_put (by decide)) (Or.inl ⟨by rfl, ?_⟩) ?_ ?_
                    (rotate_left; (intro w'; go_simp; with_reducible rfl); rotate_left; (simp only [Act.put, List.setIfInBounds_toArray, List.set_cons_zero, List.set_cons_succ]; rfl))
                    refine one_ (i := 2) (N := some 77) (upD 6 3) rfl rfl (by kernel_rfl) (by decide) (fun K hK => ?_)
                    refine callP_ Tryd.func24 (by kernel_rfl) rfl #[.pointer (some ⟨w2.heap.size + 1, 0, none⟩)] (by rfl) rfl rfl (by (try simp only [List.map_toArray, List.map_cons, List.map_nil]); first | done | rfl) ?_
                    refine hcE.mono ?_
                    rintro e w5 ⟨hb5, hk5, rfl⟩
                    refine .inr ⟨_, rfl, ?_⟩
                    intro a' hd9 h29 h39 h49
                    show Leaves Tryd.prog Tryd.f10 a'.tmps _ a'.defers (.panicking _) _
                    rw [hd9]
                    refine dec_panic (g := w.heap.size) (h29.trans rfl) (h39.trans rfl) (h49.trans rfl) (HR3d.out.kept hk5 (by have := HPB.out; omega)) (fun w' => by simp [go_sem]) ?_
                    intro w' hr9 hb9
                    exact ⟨.slice none 0 0, by rw [HD.out], by rw [HD.out]; exact Kd.R_nil _ _ _ _ _, (hb5).trans hb9⟩
                  · have hG2 := (entsS_ok (n := dd) hq).symm.trans hG
                    have HG2 : Aside0 (entsS nb fr fa rt lt (n - (i + 1)) (acc ++ [x]) s4 = entsS nb fr fa rt lt n [] s3) := ⟨by rw [← hdd3]; exact hG2⟩
                    rw [hq] at hent
                    have hcE := hent
                    clear hG hG2 hq hent hdd2 hdd3
                    go_wp2
                    refine panq_n ?_
                    refine start_ (n := 6) (S := fun w' => w'.cell? ⟨w.heap.size, 0, none⟩ = some (.slice A55 n55 c55)) (ds := [5]) (upD 6 0) (by kernel_rfl) rfl (by kernel_rfl) (show wr.drew.cell? ⟨w.heap.size, 0, none⟩ = some (.slice A55 n55 c55) from hvs) (fun hHeld => ?_)
                    clear hvs
                    generalize wr.drew = wd at *
                    refine take_ (i := 0) (N := some 75) (v := ?_) (a' := ?_) (upD 6 1) rfl rfl (by kernel_rfl) (panq_put (by decide)) (Or.inl ⟨by rfl, ?_⟩) hHeld ?_ ?_
                    (rotate_left; (rintro w' s0; go_simp; with_reducible rfl); rotate_left; (simp only [Act.put, List.setIfInBounds_toArray, List.set_cons_zero, List.set_cons_succ]; rfl))
                    refine pure_ (i := 1) (N := some 76) (v := ?_) (a' := ?_) (upD 6 2) rfl rfl (by kernel_rfl) (panq_put (by decide)) (Or.inl ⟨by rfl, ?_⟩) ?_ ?_
                    (rotate_left; (intro w'; go_simp; with_reducible rfl); rotate_left; (simp only [Act.put, List.setIfInBounds_toArray, List.set_cons_zero, List.set_cons_succ]; rfl))
                    refine one_ (i := 2) (N := some 77) (upD 6 3) rfl rfl (by kernel_rfl) (by decide) (fun K hK => ?_)
                    refine callP_ Tryd.func24 (by kernel_rfl) rfl #[.pointer (some ⟨w2.heap.size + 1, 0, none⟩)] (by rfl) rfl rfl (by (try simp only [List.map_toArray, List.map_cons, List.map_nil]); first | done | rfl) ?_
                    refine hcE.mono ?_
                    rintro e w5 ⟨hb5, hk5, hr5, hm5, v, rfl, cs, rfl, hM5⟩
                    refine .inl ⟨_, rfl, ?_⟩
                    obtain ⟨P3, px3, P4, px4, P5, px5, Q3, qx3, Q4, qx4, Q5, qx5, rfl⟩ := en_cells hM5
                    have HB5 := Aside0.mk hb5
                    have HR5 := Aside0.mk hr5
                    have HM5 := Aside0.mk hm5
                    have HE5 := Aside0.mk hM5
                    have HR35 := Aside0.mk (HR3d.out.kept hk5 (by have := HPB.out; omega))
                    have HG5 := Aside0.mk (R_stay HGd.out hk5 (fun k hk => by have := HPB.out; omega))
                    have HS5 : Aside0 (wd.heap.size ≤ w5.heap.size) := ⟨hk5.1⟩
                    clear hb5 hk5 hr5 hm5 hM5
                    have hHeld_ := hHeld
                    refine hK.out _ _ (cell_of_one HR35.out.1) (fun hHeld => ?_)
                    clear hK K hHeld_
                    refine norm_ (a' := ?_) ?_ ?_
                    (rotate_left; (show Act.put _ (some 77) _ = _; simp only [Act.put, List.setIfInBounds_toArray, List.set_cons_zero, List.set_cons_succ]; rfl))
                    refine one_ (i := 3) (N := some 78) (upD 6 4) rfl rfl (by kernel_rfl) (by decide) (fun K hK => ?_)
                    refine event_step (v := .slice (some ⟨w5.heap.size, 0, none⟩) 1 1) (w1 := w5.alloc (.cells #[.string x.f0, .int .i64 x.f1.f0, .int .i64 x.f1.f1, .string x.f1.f2, .slice P3 x.f1.f3.length px3, .slice P4 x.f1.f4.length px4, .slice P5 x.f1.f5.length px5, .int .i64 x.f2.f0, .int .i64 x.f2.f1, .string x.f2.f2, .slice Q3 x.f2.f3.length qx3, .slice Q4 x.f2.f4.length qx4, .slice Q5 x.f2.f5.length qx5] 54)) (by rfl) (by first | (go_simp; done) | (go_simp; rfl)) ?_
                    have hHeld_ := hHeld
                    refine hK.out _ _ (World.cell?_alloc_old_ hHeld_) (fun hHeld => ?_)
                    clear hK K hHeld_
                    refine norm_ (a' := ?_) ?_ ?_
                    (rotate_left; (show Act.put _ (some 78) _ = _; simp only [Act.put, List.setIfInBounds_toArray, List.set_cons_zero, List.set_cons_succ]; rfl))
                    refine one_ (i := 4) (N := some 79) (upD 6 5) rfl rfl (by kernel_rfl) (by decide) (fun K hK => ?_)
                    refine Kd.R_append_step k54 (w0 := w5) B2 (by rfl) (.tmp 75) (.tmp 78) 29 54 (.agg #[.string ⟨#[]⟩, .int .i64 0, .int .i64 0, .string ⟨#[]⟩, .slice none 0 0, .slice none 0 0, .slice none 0 0, .int .i64 0, .int .i64 0, .string ⟨#[]⟩, .slice none 0 0, .slice none 0 0, .slice none 0 0]) 224 rfl Tryd.underlying29 en_info rfl (by decide) (by omega) (.slice A55 n55 c55) acc x [.string x.f0, .int .i64 x.f1.f0, .int .i64 x.f1.f1, .string x.f1.f2, .slice P3 x.f1.f3.length px3, .slice P4 x.f1.f4.length px4, .slice P5 x.f1.f5.length px5, .int .i64 x.f2.f0, .int .i64 x.f2.f1, .string x.f2.f2, .slice Q3 x.f2.f3.length qx3, .slice Q4 x.f2.f4.length qx4, .slice Q5 x.f2.f5.length qx5] (fun _ => True) (fun k => wd.heap.size ≤ k) rfl rfl (M_from HE5.out HBSd.out) (fun k hk => ⟨trivial, fun h9 => by have := Kd.R_lt HGd.out k h9.symm; omega⟩) (fun _ _ => trivial) HG5.out (Below.refl _ _) (Nat.le_trans HBSd.out HS5.out) (by omega) ?_
                    intro v1 w6 ho hb6 hg hat
                    have hak := app_keep hg (Kd.R_base HG5.out)
                    have HB6 := Aside0.mk (below_up HB5.out hb6 HWB.out)
                    have HR6 := Aside0.mk (HR5.out.kept hak (by have := HPB.out; omega))
                    have HM6 := Aside0.mk (HM5.out.kept hak (by have := HPB.out; omega))
                    have HR36 := Aside0.mk (HR35.out.kept hak (by have := HPB.out; omega))
                    obtain ⟨A6, n6, c6, rfl⟩ := slice3 ho
                    have HO6 := Aside0.mk ho
                    have HS6 : Aside0 (B2 ≤ w6.heap.size) := ⟨Nat.le_trans (Nat.le_trans HBSd.out HS5.out) hak.1⟩
                    clear ho hb6 hg hat hak
                    have hHeld_ := hHeld
                    refine hK.out _ _ (cell_of_one HR36.out.1) (fun hHeld => ?_)
                    clear hK K hHeld_
                    refine norm_ (a' := ?_) ?_ ?_
                    (rotate_left; (show Act.put _ (some 79) _ = _; simp only [Act.put, List.setIfInBounds_toArray, List.set_cons_zero, List.set_cons_succ]; rfl))
                    refine last_ (i := 5) (N := none) (upD 6 6) rfl rfl (by kernel_rfl) (by decide) (fun K hK => ?_)
                    have hf6 := free_of_one HR36.out.1
                    refine skip_ (w1 := w6.setCell ⟨w.heap.size, 0, none⟩ (.slice A6 n6 c6)) (by rfl) rfl (by go_simp) ?_
                    refine hK.out _ _ ?_
                    clear hK K
                    refine done_ (by kernel_rfl) ?_
                    refine panq_of ?_
                    have HK7 := Aside0.mk ((Kept.refl w6 (fun k => k = w.heap.size)).setCell (p := ⟨w.heap.size, 0, none⟩) (.inl rfl) (.slice A6 n6 c6))
                    have HR7 := Aside0.mk (HR6.out.kept HK7.out (by have := HPB.out; omega))
                    have HB7 := Aside0.mk (HB6.out.setCell (p := ⟨w.heap.size, 0, none⟩) (Nat.le_refl _) (.slice A6 n6 c6))
                    have HM7 := Aside0.mk (HM6.out.kept HK7.out (by have := HPB.out; omega))
                    have HR37 := Aside0.mk (HR36.out.set0 (.slice A6 n6 c6))
                    have HO7 := Aside0.mk (R_stay HO6.out HK7.out (fun k hk => by have := HPB.out; omega))
                    have HB27 : Aside0 (B2 ≤ (w6.setCell ⟨w.heap.size, 0, none⟩ (.slice A6 n6 c6)).heap.size) := ⟨by rw [World.size_setCell]; exact HS6.out⟩
                    have HAL2 : Aside0 ((acc ++ [x]).length = i + 1) := ⟨by rw [List.length_append, HAL.out]; rfl⟩
                    have HMM : Aside0 (MSt (w6.setCell ⟨w.heap.size, 0, none⟩ (.slice A6 n6 c6)) w2.heap.size ((acc ++ [x]).map (·.f0)).reverse) := ⟨by rw [List.map_append, List.reverse_append]; exact HM7.out⟩
                    clear hHeld hf6 HR6 HB6 HM6 HR36 HO6 HB5 HR5 HM5 HE5 HR35 HG5 HS5 HM7
                    go_wp2
                    go_roundg (gk - 1)
                    case measure => omega
                    case rel => exact ⟨i + 1, acc ++ [x], s4, _, rfl, by omega, by omega, HAL2, HG2, HB27, HR7, HB7, HMM, HR37, HO7⟩
                · have hlt' : decide ((i : Int) < (n : Int)) = false := decide_eq_false (by omega)
                  have hG := HG0.out
                  rw [show n - i = 0 by omega, entsS] at hG
                  have HDI3 : Aside0 (decI nb fr fa rt sl l = outD (endS lt (.ok (acc, s)))) := ⟨by rw [HDI2.out, ← hG]⟩
                  obtain ⟨A9, cap9, hv9, hc9, hC9⟩ := HR.out.row
                  obtain ⟨d0, d1, d2, e0, e1, e2⟩ := cells3 hv9
                  clear hG hv9 hc9 hC9
                  by_cases hls : s < lt.length
                  · have hls' : decide ((s : Int) < (lt.length : Int)) = true := decide_eq_true (by omega)
                    have hlsN : decide (s < lt.length) = true := decide_eq_true hls
                    have hd : decI nb fr fa rt sl l = ([], (s : Int), 61) := by
                      rw [HDI3.out, endS, if_pos hls]
                      rfl
                    have HD := Aside0.mk hd
                    clear hd hls
                    go_wp2
                    go_quiet (fail)
                    have HR5 := HR.out.below (w1 := wr.drewN nq) (pw_below_drewN (Below.refl _ _) nq)
                    have HB5 := pw_below_drewN HB.out nq
                    have HR35 := HR3.out.below (w1 := wr.drewN nq) (pw_below_drewN (Below.refl _ _) nq)
                    clear d0 d1 d2 e0 e1 e2
                    revert HR5 HB5 HR35
                    generalize wr.drewN nq = W5
                    intro HR5 HB5 HR35
                    obtain ⟨A9, cap9, hv9, hc9, hC9⟩ := HR5.row
                    obtain ⟨d0, d1, d2, e0, e1, e2⟩ := cells3 hv9
                    have HRX := Aside0.mk (show Res3 W5.drew w.heap.size (.slice A55 n55 c55) 0 0 from HR35)
                    have HBX := Aside0.mk (below_drew HB5)
                    clear hv9 hc9 hC9 HR5 HB5 HR35
                    go_wp2
                    refine panq_n ?_
                    refine start_ (n := 9) (S := fun w' => w'.cell? ⟨w2.heap.size + 1, 1, none⟩ = some (.int .i64 (s : Int))) (ds := []) (upD 9 0) (by kernel_rfl) rfl (by kernel_rfl) (show W5.drew.cell? ⟨w2.heap.size + 1, 1, none⟩ = _ from d1) (fun hHeld => ?_)
                    refine pure_ (i := 0) (N := some 93) (v := ?_) (a' := ?_) (upD 9 1) rfl rfl (by kernel_rfl) (panq_put (by decide)) (Or.inl ⟨by rfl, ?_⟩) ?_ ?_
                    (rotate_left; (intro w'; go_simp; with_reducible rfl); rotate_left; (simp only [Act.put, List.setIfInBounds_toArray, List.set_cons_zero, List.set_cons_succ]; rfl))
                    refine pure_ (i := 1) (N := some 94) (v := ?_) (a' := ?_) (upD 9 2) rfl rfl (by kernel_rfl) (panq_put (by decide)) (Or.inl ⟨by rfl, ?_⟩) ?_ ?_
                    (rotate_left; (intro w'; go_simp; with_reducible rfl); rotate_left; (simp only [Act.put, List.setIfInBounds_toArray, List.set_cons_zero, List.set_cons_succ]; rfl))
                    refine pure_ (i := 2) (N := some 95) (v := ?_) (a' := ?_) (upD 9 3) rfl rfl (by kernel_rfl) (panq_put (by decide)) (Or.inl ⟨by rfl, ?_⟩) ?_ ?_
                    (rotate_left; (intro w'; go_simp; with_reducible rfl); rotate_left; (simp only [Act.put, List.setIfInBounds_toArray, List.set_cons_zero, List.set_cons_succ]; rfl))
                    refine pure_ (i := 3) (N := some 96) (v := ?_) (a' := ?_) (upD 9 4) rfl rfl (by kernel_rfl) (panq_put (by decide)) (Or.inl ⟨by rfl, ?_⟩) ?_ ?_
                    (rotate_left; (intro w'; go_simp; with_reducible rfl); rotate_left; (simp only [Act.put, List.setIfInBounds_toArray, List.set_cons_zero, List.set_cons_succ]; rfl))
                    refine pure_ (i := 4) (N := some 97) (v := ?_) (a' := ?_) (upD 9 5) rfl rfl (by kernel_rfl) (panq_put (by decide)) (Or.inl ⟨by rfl, ?_⟩) ?_ ?_
                    (rotate_left; (intro w'; go_simp; with_reducible rfl); rotate_left; (simp only [Act.put, List.setIfInBounds_toArray, List.set_cons_zero, List.set_cons_succ]; rfl))
                    refine pure_ (i := 5) (N := some 98) (v := ?_) (a' := ?_) (upD 9 6) rfl rfl (by kernel_rfl) (panq_put (by decide)) (Or.inl ⟨by rfl, ?_⟩) ?_ ?_
                    (rotate_left; (intro w'; go_simp; with_reducible rfl); rotate_left; (simp only [Act.put, List.setIfInBounds_toArray, List.set_cons_zero, List.set_cons_succ]; rfl))
                    refine pure_ (i := 6) (N := some 99) (v := ?_) (a' := ?_) (upD 9 7) rfl rfl (by kernel_rfl) (panq_put (by decide)) (Or.inl ⟨by rfl, ?_⟩) ?_ ?_
                    (rotate_left; (intro w'; go_simp; with_reducible rfl); rotate_left; (simp only [Act.put, List.setIfInBounds_toArray, List.set_cons_zero, List.set_cons_succ]; rfl))
                    refine take_ (i := 7) (N := some 100) (v := ?_) (a' := ?_) (upD 9 8) rfl rfl (by kernel_rfl) (panq_put (by decide)) (Or.inl ⟨by rfl, ?_⟩) hHeld ?_ ?_
                    (rotate_left; (rintro w' s0; go_simp; with_reducible rfl); rotate_left; (simp only [Act.put, List.setIfInBounds_toArray, List.set_cons_zero, List.set_cons_succ]; rfl))
                    refine one_ (i := 8) (N := some 101) (upD 9 9) rfl rfl (by kernel_rfl) (by decide) (fun K hK => ?_)
                    refine callP_ Tryd.func22 (by kernel_rfl) rfl #[.pointer (some ⟨w2.heap.size + 1, 0, none⟩), .int .i64 (s : Int), .int .i64 61] (by rfl) rfl rfl (by (try simp only [List.map_toArray, List.map_cons, List.map_nil]); first | done | rfl) ?_
                    refine (source_fail _ _ _ _).mono ?_
                    rintro e w9 ⟨rfl, rfl⟩
                    refine .inr ⟨_, rfl, ?_⟩
                    intro a' hd9 h29 h39 h49
                    show Leaves Tryd.prog Tryd.f10 a'.tmps _ a'.defers (.panicking _) _
                    rw [hd9]
                    refine dec_panic (g := w.heap.size) (h29.trans rfl) (h39.trans rfl) (h49.trans rfl) HRX.out (fun w' => by simp [go_sem]) ?_
                    intro w' hr9 hb9
                    exact ⟨.slice none 0 0, by rw [HD.out], by rw [HD.out]; exact Kd.R_nil _ _ _ _ _, (HBX.out).trans hb9⟩
                  · have hls' : decide ((s : Int) < (lt.length : Int)) = false := decide_eq_false (by omega)
                    have hlsN : decide (s < lt.length) = false := decide_eq_false hls
                    have hd : decI nb fr fa rt sl l = (acc, 0, 0) := by
                      rw [HDI3.out, endS, if_neg hls]
                      rfl
                    have HD := Aside0.mk hd
                    clear hd hls
                    go_wp2
                    go_quiet (fail)
                    have HB5 := pw_below_drewN HB.out nq
                    have HR35 := HR3.out.below (w1 := wr.drewN nq) (pw_below_drewN (Below.refl _ _) nq)
                    have HG5 := Kd.R_drewN HG.out nq
                    clear d0 d1 d2 e0 e1 e2
                    revert HB5 HR35 HG5
                    generalize wr.drewN nq = W5
                    intro HB5 HR35 HG5
                    have r0 : W5.cell? ⟨w.heap.size, 0, none⟩ = some (.slice A55 n55 c55) := cell_of_one HR35.1
                    have r1 : W5.cell? ⟨w.heap.size + 1, 0, none⟩ = some (.int .i64 0) := cell_of_one HR35.2.1
                    have r2 : W5.cell? ⟨w.heap.size + 1 + 1, 0, none⟩ = some (.int .i64 0) := cell_of_one HR35.2.2
                    have f0 : W5.frozen? ⟨w.heap.size, 0, none⟩ = false := free_of_one HR35.1
                    have f1 : W5.frozen? ⟨w.heap.size + 1, 0, none⟩ = false := free_of_one HR35.2.1
                    have f2 : W5.frozen? ⟨w.heap.size + 1 + 1, 0, none⟩ = false := free_of_one HR35.2.2
                    have HR6 := Aside0.mk (((HR35.set0 (.slice A55 n55 c55)).set1 0).set2 0)
                    have HB6 := Aside0.mk (((HB5.setCell (p := ⟨w.heap.size, 0, none⟩) (Nat.le_refl _) (.slice A55 n55 c55)).setCell (p := ⟨w.heap.size + 1, 0, none⟩) (Nat.le_succ _) (.int .i64 0)).setCell (p := ⟨w.heap.size + 1 + 1, 0, none⟩) (by show w.heap.size ≤ w.heap.size + 1 + 1; omega) (.int .i64 0))
                    have HK6 := ((((Kept.refl W5 (fun k => k ≤ w.heap.size + 2)).setCell (p := ⟨w.heap.size, 0, none⟩) (.inl (Nat.le_add_right _ _)) (.slice A55 n55 c55)).setCell (p := ⟨w.heap.size + 1, 0, none⟩) (.inl (Nat.le_succ _)) (.int .i64 0)).setCell (p := ⟨w.heap.size + 1 + 1, 0, none⟩) (.inl (Nat.le_refl _)) (.int .i64 0))
                    have HG6 := Aside0.mk (Kd.R_lower (R_stay HG5 HK6 (fun k hk => by have := HPB.out; omega)) HWB.out)
                    clear HB5 HR35 HG5 HK6
                    go_wp2
                    refine leaves_cons (f := 20) (args := #[.pointer (some ⟨w.heap.size, 0, none⟩), .pointer (some ⟨w.heap.size + 1, 0, none⟩), .pointer (some ⟨w.heap.size + 2, 0, none⟩)]) (by simp) (by simp [go_sem]) ?_
                    refine (decode_idle w.heap.size _).mono ?_
                    rintro e u' w'' ⟨rfl, rfl, rfl⟩
                    exact ⟨_, res3_out HR6.out _ _ _, .slice A55 n55 c55, by rw [HD.out], by rw [HD.out]; exact HG6.out, HB6.out⟩
          · obtain ⟨s0, s1, s2, _⟩ := cells3 (blk_kept hq HK.out (by omega))
            have hlc := (rfl : (0 : Int) = 0)
            rcases (show j = 0 ∨ j = 1 ∨ j = 2 by omega) with rfl | rfl | rfl
            ·
              by_cases hm : rd lt 0 = 72
              · clear hlc
                go_wp2
                refine only_n ?_
                refine start_ (n := 11) (S := fun w' => Below w.heap.size w w') (ds := []) (upD 11 0) (by kernel_rfl) rfl (by kernel_rfl) (below_drew HB.out) (fun hHeld => ?_)
                have HRD := Aside0.mk (show RSt w wr.drew (w2.heap.size + 1) lt 0 w2.heap.size from HR.out.below (below_drew (Below.refl _ _)))
                refine pure_ (i := 0) (N := some 47) (v := ?_) (a' := ?_) (upD 11 1) rfl rfl (by kernel_rfl) (fun _ _ _ h => h) (Or.inl ⟨by rfl, ?_⟩) ?_ ?_
                (rotate_left; (intro w'; go_simp; with_reducible rfl); rotate_left; (simp only [Act.put, List.setIfInBounds_toArray, List.set_cons_zero, List.set_cons_succ]; rfl))
                refine pure_ (i := 1) (N := some 48) (v := ?_) (a' := ?_) (upD 11 2) rfl rfl (by kernel_rfl) (fun _ _ _ h => h) (Or.inl ⟨by rfl, ?_⟩) ?_ ?_
                (rotate_left; (intro w'; go_simp; with_reducible rfl); rotate_left; (simp only [Act.put, List.setIfInBounds_toArray, List.set_cons_zero, List.set_cons_succ]; rfl))
                refine pure_ (i := 2) (N := some 49) (v := ?_) (a' := ?_) (upD 11 3) rfl rfl (by kernel_rfl) (fun _ _ _ h => h) (Or.inl ⟨by rfl, ?_⟩) ?_ ?_
                (rotate_left; (intro w'; go_simp; with_reducible rfl); rotate_left; (simp only [Act.put, List.setIfInBounds_toArray, List.set_cons_zero, List.set_cons_succ]; rfl))
                refine pure_ (i := 3) (N := some 50) (v := ?_) (a' := ?_) (upD 11 4) rfl rfl (by kernel_rfl) (fun _ _ _ h => h) (Or.inl ⟨by rfl, ?_⟩) ?_ ?_
                (rotate_left; (intro w'; go_simp; with_reducible rfl); rotate_left; (simp only [Act.put, List.setIfInBounds_toArray, List.set_cons_zero, List.set_cons_succ]; rfl))
                refine pure_ (i := 4) (N := some 51) (v := ?_) (a' := ?_) (upD 11 5) rfl rfl (by kernel_rfl) (fun _ _ _ h => h) (Or.inl ⟨by rfl, ?_⟩) ?_ ?_
                (rotate_left; (intro w'; go_simp; with_reducible rfl); rotate_left; (simp only [Act.put, List.setIfInBounds_toArray, List.set_cons_zero, List.set_cons_succ]; rfl))
                refine pure_ (i := 5) (N := some 52) (v := ?_) (a' := ?_) (upD 11 6) rfl rfl (by kernel_rfl) (fun _ _ _ h => h) (Or.inl ⟨by rfl, ?_⟩) ?_ ?_
                (rotate_left; (intro w'; go_simp; with_reducible rfl); rotate_left; (simp only [Act.put, List.setIfInBounds_toArray, List.set_cons_zero, List.set_cons_succ]; rfl))
                refine pure_ (i := 6) (N := some 53) (v := ?_) (a' := ?_) (upD 11 7) rfl rfl (by kernel_rfl) (fun _ _ _ h => h) (Or.inl ⟨by rfl, ?_⟩) ?_ ?_
                (rotate_left; (intro w'; go_simp; with_reducible rfl); rotate_left; (simp only [Act.put, List.setIfInBounds_toArray, List.set_cons_zero, List.set_cons_succ]; rfl))
                refine pure_ (i := 9) (N := some 56) (v := ?_) (a' := ?_) #[true, true, true, true, true, true, true, false, false, true, false] rfl rfl (by kernel_rfl) (fun _ _ _ h => h) (Or.inl ⟨by rfl, ?_⟩) ?_ ?_
                (rotate_left; (intro w'; go_simp; with_reducible rfl); rotate_left; (simp only [Act.put, List.setIfInBounds_toArray, List.set_cons_zero, List.set_cons_succ]; rfl))
                obtain ⟨A9, cap9, hv9, hc9, hC9⟩ := HRD.out.row
                have hat9 := (cells3 hv9).2.1
                clear hv9 hc9 hC9
                refine one_ (i := 7) (N := some 54) (upY 11 10 8) rfl rfl (by kernel_rfl) (by decide) (fun K hK => ?_)
                rw [if_pos (by rfl)]
                go_simp
                have hHeld_ := hHeld
                refine hK.out _ _ hHeld_ (fun hHeld => ?_)
                clear hK K hHeld_ hat9
                refine one_ (i := 8) (N := some 55) (upD 11 10) rfl rfl (by kernel_rfl) (by decide) (fun K hK => ?_)
                refine goes_ Tryd.func21 (by kernel_rfl) rfl #[.pointer (some ⟨w2.heap.size + 1, 0, none⟩), .int .i64 0] (by rfl) rfl rfl (by (try simp only [List.map_toArray, List.map_cons, List.map_nil]); first | done | rfl) ?_
                with_reducible refine (source_byte w (w2.heap.size + 1) lt 0 w2.heap.size 0 _ hHeld HRD.out (by have := HLL.out; omega)).mono ?_
                rintro e w4 ⟨rfl, hr4, hb4, hk4⟩
                refine ⟨_, rfl, ?_⟩
                rw [show rd lt ((0 : Nat) : Int) = 72 from hm]
                have HR4 := Aside0.mk hr4
                have HB4 := Aside0.mk hb4
                have HK4 := Aside0.mk (HK.out.then_ (show Kept wr w4 _ from hk4) (fun _ h => .inl h))
                clear hr4 hk4
                have hHeld_ := hHeld
                refine hK.out _ _ hb4 (fun hHeld => ?_)
                clear hK K hHeld_
                refine norm_ (a' := ?_) ?_ ?_
                (rotate_left; (show Act.put _ (some 55) _ = _; simp only [Act.put, List.setIfInBounds_toArray, List.set_cons_zero, List.set_cons_succ]; rfl))
                refine pure_ (i := 10) (N := some 57) (v := ?_) (a' := ?_) (upD 11 11) rfl rfl (by kernel_rfl) (fun _ _ _ h => h) (Or.inl ⟨by rfl, ?_⟩) ?_ ?_
                (rotate_left; (intro w'; go_simp; with_reducible rfl); rotate_left; (simp only [Act.put, List.setIfInBounds_toArray, List.set_cons_zero, List.set_cons_succ]; rfl))
                refine done_ (by kernel_rfl) ?_
                refine only_of ?_
                clear hHeld HB HR HRD HK
                go_wp2
                go_roundg (gk - 1)
                case measure => omega
                case rel => exact ⟨1, rfl, by omega, HR4, HB4, HK4, ⟨fun _ => hm, fun h => absurd h (by omega), fun h => absurd h (by omega)⟩⟩
              · clear hlc
                have hmb : (rd lt 0 != 72) = true := by simp [hm]
                have hd : decI nb fr fa rt sl l = ([], 0, 61) := by
                  rw [HDI.out, bodyS, show headB lt = some 0 from by rw [headB, if_pos hm]]
                  rfl
                have HD := Aside0.mk hd
                clear hd hm
                go_wp2
                refine only_n ?_
                refine start_ (n := 11) (S := fun w' => Below w.heap.size w w') (ds := []) (upD 11 0) (by kernel_rfl) rfl (by kernel_rfl) (below_drew HB.out) (fun hHeld => ?_)
                have HRD := Aside0.mk (show RSt w wr.drew (w2.heap.size + 1) lt 0 w2.heap.size from HR.out.below (below_drew (Below.refl _ _)))
                refine pure_ (i := 0) (N := some 47) (v := ?_) (a' := ?_) (upD 11 1) rfl rfl (by kernel_rfl) (fun _ _ _ h => h) (Or.inl ⟨by rfl, ?_⟩) ?_ ?_
                (rotate_left; (intro w'; go_simp; with_reducible rfl); rotate_left; (simp only [Act.put, List.setIfInBounds_toArray, List.set_cons_zero, List.set_cons_succ]; rfl))
                refine pure_ (i := 1) (N := some 48) (v := ?_) (a' := ?_) (upD 11 2) rfl rfl (by kernel_rfl) (fun _ _ _ h => h) (Or.inl ⟨by rfl, ?_⟩) ?_ ?_
                (rotate_left; (intro w'; go_simp; with_reducible rfl); rotate_left; (simp only [Act.put, List.setIfInBounds_toArray, List.set_cons_zero, List.set_cons_succ]; rfl))
                refine pure_ (i := 2) (N := some 49) (v := ?_) (a' := ?_) (upD 11 3) rfl rfl (by kernel_rfl) (fun _ _ _ h => h) (Or.inl ⟨by rfl, ?_⟩) ?_ ?_
                (rotate_left; (intro w'; go_simp; with_reducible rfl); rotate_left; (simp only [Act.put, List.setIfInBounds_toArray, List.set_cons_zero, List.set_cons_succ]; rfl))
                refine pure_ (i := 3) (N := some 50) (v := ?_) (a' := ?_) (upD 11 4) rfl rfl (by kernel_rfl) (fun _ _ _ h => h) (Or.inl ⟨by rfl, ?_⟩) ?_ ?_
                (rotate_left; (intro w'; go_simp; with_reducible rfl); rotate_left; (simp only [Act.put, List.setIfInBounds_toArray, List.set_cons_zero, List.set_cons_succ]; rfl))
                refine pure_ (i := 4) (N := some 51) (v := ?_) (a' := ?_) (upD 11 5) rfl rfl (by kernel_rfl) (fun _ _ _ h => h) (Or.inl ⟨by rfl, ?_⟩) ?_ ?_
                (rotate_left; (intro w'; go_simp; with_reducible rfl); rotate_left; (simp only [Act.put, List.setIfInBounds_toArray, List.set_cons_zero, List.set_cons_succ]; rfl))
                refine pure_ (i := 5) (N := some 52) (v := ?_) (a' := ?_) (upD 11 6) rfl rfl (by kernel_rfl) (fun _ _ _ h => h) (Or.inl ⟨by rfl, ?_⟩) ?_ ?_
                (rotate_left; (intro w'; go_simp; with_reducible rfl); rotate_left; (simp only [Act.put, List.setIfInBounds_toArray, List.set_cons_zero, List.set_cons_succ]; rfl))
                refine pure_ (i := 6) (N := some 53) (v := ?_) (a' := ?_) (upD 11 7) rfl rfl (by kernel_rfl) (fun _ _ _ h => h) (Or.inl ⟨by rfl, ?_⟩) ?_ ?_
                (rotate_left; (intro w'; go_simp; with_reducible rfl); rotate_left; (simp only [Act.put, List.setIfInBounds_toArray, List.set_cons_zero, List.set_cons_succ]; rfl))
                refine pure_ (i := 9) (N := some 56) (v := ?_) (a' := ?_) #[true, true, true, true, true, true, true, false, false, true, false] rfl rfl (by kernel_rfl) (fun _ _ _ h => h) (Or.inl ⟨by rfl, ?_⟩) ?_ ?_
                (rotate_left; (intro w'; go_simp; with_reducible rfl); rotate_left; (simp only [Act.put, List.setIfInBounds_toArray, List.set_cons_zero, List.set_cons_succ]; rfl))
                obtain ⟨A9, cap9, hv9, hc9, hC9⟩ := HRD.out.row
                have hat9 := (cells3 hv9).2.1
                clear hv9 hc9 hC9
                refine one_ (i := 7) (N := some 54) (upY 11 10 8) rfl rfl (by kernel_rfl) (by decide) (fun K hK => ?_)
                rw [if_pos (by rfl)]
                go_simp
                have hHeld_ := hHeld
                refine hK.out _ _ hHeld_ (fun hHeld => ?_)
                clear hK K hHeld_ hat9
                refine one_ (i := 8) (N := some 55) (upD 11 10) rfl rfl (by kernel_rfl) (by decide) (fun K hK => ?_)
                refine goes_ Tryd.func21 (by kernel_rfl) rfl #[.pointer (some ⟨w2.heap.size + 1, 0, none⟩), .int .i64 0] (by rfl) rfl rfl (by (try simp only [List.map_toArray, List.map_cons, List.map_nil]); first | done | rfl) ?_
                with_reducible refine (source_byte w (w2.heap.size + 1) lt 0 w2.heap.size 0 _ hHeld HRD.out (by have := HLL.out; omega)).mono ?_
                rintro e w4 ⟨rfl, hr4, hb4, hk4⟩
                refine ⟨_, rfl, ?_⟩
                rw [show rd lt ((0 : Nat) : Int) = rd lt 0 from rfl]
                have HR4 := Aside0.mk hr4
                have HB4 := Aside0.mk hb4
                have HK4 := Aside0.mk (HK.out.then_ (show Kept wr w4 _ from hk4) (fun _ h => .inl h))
                clear hr4 hk4
                have hHeld_ := hHeld
                refine hK.out _ _ hb4 (fun hHeld => ?_)
                clear hK K hHeld_
                refine norm_ (a' := ?_) ?_ ?_
                (rotate_left; (show Act.put _ (some 55) _ = _; simp only [Act.put, List.setIfInBounds_toArray, List.set_cons_zero, List.set_cons_succ]; rfl))
                refine pure_ (i := 10) (N := some 57) (v := ?_) (a' := ?_) (upD 11 11) rfl rfl (by kernel_rfl) (fun _ _ _ h => h) (Or.inl ⟨by rfl, ?_⟩) ?_ ?_
                (rotate_left; (intro w'; go_simp; with_reducible rfl); rotate_left; (simp only [Act.put, List.setIfInBounds_toArray, List.set_cons_zero, List.set_cons_succ]; rfl))
                refine done_ (by kernel_rfl) ?_
                refine only_of ?_
                clear hHeld HB HR HRD HK
                go_wp2
                obtain ⟨A9, cap9, hv9, hc9, hC9⟩ := HR4.out.row
                obtain ⟨d0, d1, d2, e0, e1, e2⟩ := cells3 hv9
                clear hv9 hc9 hC9
                have HRX := Aside0.mk (show Res3 w4.drew w.heap.size (.slice none 0 0) 0 0 from (HRes.out.kept HK4.out (by have := HSW.out; omega)))
                have HBX := Aside0.mk (below_drew HB4.out)
                refine panq_n ?_
                refine start_ (n := 10) (S := fun w' => w'.cell? ⟨w2.heap.size + 1, 1, none⟩ = some (.int .i64 1)) (ds := []) (upD 10 0) (by kernel_rfl) rfl (by kernel_rfl) (show w4.drew.cell? ⟨w2.heap.size + 1, 1, none⟩ = _ from d1) (fun hHeld => ?_)
                refine pure_ (i := 0) (N := some 58) (v := ?_) (a' := ?_) (upD 10 1) rfl rfl (by kernel_rfl) (panq_put (by decide)) (Or.inl ⟨by rfl, ?_⟩) ?_ ?_
                (rotate_left; (intro w'; go_simp; with_reducible rfl); rotate_left; (simp only [Act.put, List.setIfInBounds_toArray, List.set_cons_zero, List.set_cons_succ]; rfl))
                refine pure_ (i := 1) (N := some 59) (v := ?_) (a' := ?_) (upD 10 2) rfl rfl (by kernel_rfl) (panq_put (by decide)) (Or.inl ⟨by rfl, ?_⟩) ?_ ?_
                (rotate_left; (intro w'; go_simp; with_reducible rfl); rotate_left; (simp only [Act.put, List.setIfInBounds_toArray, List.set_cons_zero, List.set_cons_succ]; rfl))
                refine pure_ (i := 2) (N := some 60) (v := ?_) (a' := ?_) (upD 10 3) rfl rfl (by kernel_rfl) (panq_put (by decide)) (Or.inl ⟨by rfl, ?_⟩) ?_ ?_
                (rotate_left; (intro w'; go_simp; with_reducible rfl); rotate_left; (simp only [Act.put, List.setIfInBounds_toArray, List.set_cons_zero, List.set_cons_succ]; rfl))
                refine pure_ (i := 3) (N := some 61) (v := ?_) (a' := ?_) (upD 10 4) rfl rfl (by kernel_rfl) (panq_put (by decide)) (Or.inl ⟨by rfl, ?_⟩) ?_ ?_
                (rotate_left; (intro w'; go_simp; with_reducible rfl); rotate_left; (simp only [Act.put, List.setIfInBounds_toArray, List.set_cons_zero, List.set_cons_succ]; rfl))
                refine pure_ (i := 4) (N := some 62) (v := ?_) (a' := ?_) (upD 10 5) rfl rfl (by kernel_rfl) (panq_put (by decide)) (Or.inl ⟨by rfl, ?_⟩) ?_ ?_
                (rotate_left; (intro w'; go_simp; with_reducible rfl); rotate_left; (simp only [Act.put, List.setIfInBounds_toArray, List.set_cons_zero, List.set_cons_succ]; rfl))
                refine pure_ (i := 5) (N := some 63) (v := ?_) (a' := ?_) (upD 10 6) rfl rfl (by kernel_rfl) (panq_put (by decide)) (Or.inl ⟨by rfl, ?_⟩) ?_ ?_
                (rotate_left; (intro w'; go_simp; with_reducible rfl); rotate_left; (simp only [Act.put, List.setIfInBounds_toArray, List.set_cons_zero, List.set_cons_succ]; rfl))
                refine pure_ (i := 6) (N := some 64) (v := ?_) (a' := ?_) (upD 10 7) rfl rfl (by kernel_rfl) (panq_put (by decide)) (Or.inl ⟨by rfl, ?_⟩) ?_ ?_
                (rotate_left; (intro w'; go_simp; with_reducible rfl); rotate_left; (simp only [Act.put, List.setIfInBounds_toArray, List.set_cons_zero, List.set_cons_succ]; rfl))
                refine take_ (i := 7) (N := some 65) (v := ?_) (a' := ?_) (upD 10 8) rfl rfl (by kernel_rfl) (panq_put (by decide)) (Or.inl ⟨by rfl, ?_⟩) hHeld ?_ ?_
                (rotate_left; (rintro w' s0; go_simp; with_reducible rfl); rotate_left; (simp only [Act.put, List.setIfInBounds_toArray, List.set_cons_zero, List.set_cons_succ]; rfl))
                refine pure_ (i := 8) (N := some 66) (v := ?_) (a' := ?_) (upD 10 9) rfl rfl (by kernel_rfl) (panq_put (by decide)) (Or.inl ⟨by rfl, ?_⟩) ?_ ?_
                (rotate_left; (intro w'; go_simp; with_reducible rfl); rotate_left; (simp only [Act.put, List.setIfInBounds_toArray, List.set_cons_zero, List.set_cons_succ]; rfl))
                refine one_ (i := 9) (N := some 67) (upD 10 10) rfl rfl (by kernel_rfl) (by decide) (fun K hK => ?_)
                refine callP_ Tryd.func22 (by kernel_rfl) rfl #[.pointer (some ⟨w2.heap.size + 1, 0, none⟩), .int .i64 0, .int .i64 61] (by rfl) rfl rfl (by (try simp only [List.map_toArray, List.map_cons, List.map_nil]); first | done | rfl) ?_
                refine (source_fail _ _ _ _).mono ?_
                rintro e w9 ⟨rfl, rfl⟩
                refine .inr ⟨_, rfl, ?_⟩
                intro a' hd9 h29 h39 h49
                show Leaves Tryd.prog Tryd.f10 a'.tmps _ a'.defers (.panicking _) _
                rw [hd9]
                refine dec_panic (g := w.heap.size) (h29.trans rfl) (h39.trans rfl) (h49.trans rfl) HRX.out (fun w' => by simp [go_sem]) ?_
                intro w' hr9 hb9
                exact ⟨.slice none 0 0, by rw [HD.out], by rw [HD.out]; exact Kd.R_nil _ _ _ _ _, (HBX.out).trans hb9⟩
            ·
              by_cases hm : rd lt 1 = 67
              · clear hlc
                go_wp2
                refine only_n ?_
                refine start_ (n := 11) (S := fun w' => Below w.heap.size w w') (ds := []) (upD 11 0) (by kernel_rfl) rfl (by kernel_rfl) (below_drew HB.out) (fun hHeld => ?_)
                have HRD := Aside0.mk (show RSt w wr.drew (w2.heap.size + 1) lt 1 w2.heap.size from HR.out.below (below_drew (Below.refl _ _)))
                refine pure_ (i := 0) (N := some 47) (v := ?_) (a' := ?_) (upD 11 1) rfl rfl (by kernel_rfl) (fun _ _ _ h => h) (Or.inl ⟨by rfl, ?_⟩) ?_ ?_
                (rotate_left; (intro w'; go_simp; with_reducible rfl); rotate_left; (simp only [Act.put, List.setIfInBounds_toArray, List.set_cons_zero, List.set_cons_succ]; rfl))
                refine pure_ (i := 1) (N := some 48) (v := ?_) (a' := ?_) (upD 11 2) rfl rfl (by kernel_rfl) (fun _ _ _ h => h) (Or.inl ⟨by rfl, ?_⟩) ?_ ?_
                (rotate_left; (intro w'; go_simp; with_reducible rfl); rotate_left; (simp only [Act.put, List.setIfInBounds_toArray, List.set_cons_zero, List.set_cons_succ]; rfl))
                refine pure_ (i := 2) (N := some 49) (v := ?_) (a' := ?_) (upD 11 3) rfl rfl (by kernel_rfl) (fun _ _ _ h => h) (Or.inl ⟨by rfl, ?_⟩) ?_ ?_
                (rotate_left; (intro w'; go_simp; with_reducible rfl); rotate_left; (simp only [Act.put, List.setIfInBounds_toArray, List.set_cons_zero, List.set_cons_succ]; rfl))
                refine pure_ (i := 3) (N := some 50) (v := ?_) (a' := ?_) (upD 11 4) rfl rfl (by kernel_rfl) (fun _ _ _ h => h) (Or.inl ⟨by rfl, ?_⟩) ?_ ?_
                (rotate_left; (intro w'; go_simp; with_reducible rfl); rotate_left; (simp only [Act.put, List.setIfInBounds_toArray, List.set_cons_zero, List.set_cons_succ]; rfl))
                refine pure_ (i := 4) (N := some 51) (v := ?_) (a' := ?_) (upD 11 5) rfl rfl (by kernel_rfl) (fun _ _ _ h => h) (Or.inl ⟨by rfl, ?_⟩) ?_ ?_
                (rotate_left; (intro w'; go_simp; with_reducible rfl); rotate_left; (simp only [Act.put, List.setIfInBounds_toArray, List.set_cons_zero, List.set_cons_succ]; rfl))
                refine pure_ (i := 5) (N := some 52) (v := ?_) (a' := ?_) (upD 11 6) rfl rfl (by kernel_rfl) (fun _ _ _ h => h) (Or.inl ⟨by rfl, ?_⟩) ?_ ?_
                (rotate_left; (intro w'; go_simp; with_reducible rfl); rotate_left; (simp only [Act.put, List.setIfInBounds_toArray, List.set_cons_zero, List.set_cons_succ]; rfl))
                refine pure_ (i := 6) (N := some 53) (v := ?_) (a' := ?_) (upD 11 7) rfl rfl (by kernel_rfl) (fun _ _ _ h => h) (Or.inl ⟨by rfl, ?_⟩) ?_ ?_
                (rotate_left; (intro w'; go_simp; with_reducible rfl); rotate_left; (simp only [Act.put, List.setIfInBounds_toArray, List.set_cons_zero, List.set_cons_succ]; rfl))
                refine pure_ (i := 9) (N := some 56) (v := ?_) (a' := ?_) #[true, true, true, true, true, true, true, false, false, true, false] rfl rfl (by kernel_rfl) (fun _ _ _ h => h) (Or.inl ⟨by rfl, ?_⟩) ?_ ?_
                (rotate_left; (intro w'; go_simp; with_reducible rfl); rotate_left; (simp only [Act.put, List.setIfInBounds_toArray, List.set_cons_zero, List.set_cons_succ]; rfl))
                obtain ⟨A9, cap9, hv9, hc9, hC9⟩ := HRD.out.row
                have hat9 := (cells3 hv9).2.1
                clear hv9 hc9 hC9
                refine one_ (i := 7) (N := some 54) (upY 11 10 8) rfl rfl (by kernel_rfl) (by decide) (fun K hK => ?_)
                rw [if_pos (by rfl)]
                go_simp
                have hHeld_ := hHeld
                refine hK.out _ _ hHeld_ (fun hHeld => ?_)
                clear hK K hHeld_ hat9
                refine one_ (i := 8) (N := some 55) (upD 11 10) rfl rfl (by kernel_rfl) (by decide) (fun K hK => ?_)
                refine goes_ Tryd.func21 (by kernel_rfl) rfl #[.pointer (some ⟨w2.heap.size + 1, 0, none⟩), .int .i64 1] (by rfl) rfl rfl (by (try simp only [List.map_toArray, List.map_cons, List.map_nil]); first | done | rfl) ?_
                with_reducible refine (source_byte w (w2.heap.size + 1) lt 1 w2.heap.size 1 _ hHeld HRD.out (by have := HLL.out; omega)).mono ?_
                rintro e w4 ⟨rfl, hr4, hb4, hk4⟩
                refine ⟨_, rfl, ?_⟩
                rw [show rd lt ((1 : Nat) : Int) = 67 from hm]
                have HR4 := Aside0.mk hr4
                have HB4 := Aside0.mk hb4
                have HK4 := Aside0.mk (HK.out.then_ (show Kept wr w4 _ from hk4) (fun _ h => .inl h))
                clear hr4 hk4
                have hHeld_ := hHeld
                refine hK.out _ _ hb4 (fun hHeld => ?_)
                clear hK K hHeld_
                refine norm_ (a' := ?_) ?_ ?_
                (rotate_left; (show Act.put _ (some 55) _ = _; simp only [Act.put, List.setIfInBounds_toArray, List.set_cons_zero, List.set_cons_succ]; rfl))
                refine pure_ (i := 10) (N := some 57) (v := ?_) (a' := ?_) (upD 11 11) rfl rfl (by kernel_rfl) (fun _ _ _ h => h) (Or.inl ⟨by rfl, ?_⟩) ?_ ?_
                (rotate_left; (intro w'; go_simp; with_reducible rfl); rotate_left; (simp only [Act.put, List.setIfInBounds_toArray, List.set_cons_zero, List.set_cons_succ]; rfl))
                refine done_ (by kernel_rfl) ?_
                refine only_of ?_
                clear hHeld HB HR HRD HK
                go_wp2
                go_roundg (gk - 1)
                case measure => omega
                case rel => exact ⟨2, rfl, by omega, HR4, HB4, HK4, ⟨fun _ => HHD.out.1 (by omega), fun _ => hm, fun h => absurd h (by omega)⟩⟩
              · clear hlc
                have hmb : (rd lt 1 != 67) = true := by simp [hm]
                have hd : decI nb fr fa rt sl l = ([], 1, 61) := by
                  rw [HDI.out, bodyS, show headB lt = some 1 from by rw [headB, if_neg (fun h => h (HHD.out.1 (by omega))), if_pos hm]]
                  rfl
                have HD := Aside0.mk hd
                clear hd hm
                go_wp2
                refine only_n ?_
                refine start_ (n := 11) (S := fun w' => Below w.heap.size w w') (ds := []) (upD 11 0) (by kernel_rfl) rfl (by kernel_rfl) (below_drew HB.out) (fun hHeld => ?_)
                have HRD := Aside0.mk (show RSt w wr.drew (w2.heap.size + 1) lt 1 w2.heap.size from HR.out.below (below_drew (Below.refl _ _)))
                refine pure_ (i := 0) (N := some 47) (v := ?_) (a' := ?_) (upD 11 1) rfl rfl (by kernel_rfl) (fun _ _ _ h => h) (Or.inl ⟨by rfl, ?_⟩) ?_ ?_
                (rotate_left; (intro w'; go_simp; with_reducible rfl); rotate_left; (simp only [Act.put, List.setIfInBounds_toArray, List.set_cons_zero, List.set_cons_succ]; rfl))
                refine pure_ (i := 1) (N := some 48) (v := ?_) (a' := ?_) (upD 11 2) rfl rfl (by kernel_rfl) (fun _ _ _ h => h) (Or.inl ⟨by rfl, ?_⟩) ?_ ?_
                (rotate_left; (intro w'; go_simp; with_reducible rfl); rotate_left; (simp only [Act.put, List.setIfInBounds_toArray, List.set_cons_zero, List.set_cons_succ]; rfl))
                refine pure_ (i := 2) (N := some 49) (v := ?_) (a' := ?_) (upD 11 3) rfl rfl (by kernel_rfl) (fun _ _ _ h => h) (Or.inl ⟨by rfl, ?_⟩) ?_ ?_
                (rotate_left; (intro w'; go_simp; with_reducible rfl); rotate_left; (simp only [Act.put, List.setIfInBounds_toArray, List.set_cons_zero, List.set_cons_succ]; rfl))
                refine pure_ (i := 3) (N := some 50) (v := ?_) (a' := ?_) (upD 11 4) rfl rfl (by kernel_rfl) (fun _ _ _ h => h) (Or.inl ⟨by rfl, ?_⟩) ?_ ?_
                (rotate_left; (intro w'; go_simp; with_reducible rfl); rotate_left; (simp only [Act.put, List.setIfInBounds_toArray, List.set_cons_zero, List.set_cons_succ]; rfl))
                refine pure_ (i := 4) (N := some 51) (v := ?_) (a' := ?_) (upD 11 5) rfl rfl (by kernel_rfl) (fun _ _ _ h => h) (Or.inl ⟨by rfl, ?_⟩) ?_ ?_
                (rotate_left; (intro w'; go_simp; with_reducible rfl); rotate_left; (simp only [Act.put, List.setIfInBounds_toArray, List.set_cons_zero, List.set_cons_succ]; rfl))
                refine pure_ (i := 5) (N := some 52) (v := ?_) (a' := ?_) (upD 11 6) rfl rfl (by kernel_rfl) (fun _ _ _ h => h) (Or.inl ⟨by rfl, ?_⟩) ?_ ?_
                (rotate_left; (intro w'; go_simp; with_reducible rfl); rotate_left; (simp only [Act.put, List.setIfInBounds_toArray, List.set_cons_zero, List.set_cons_succ]; rfl))
                refine pure_ (i := 6) (N := some 53) (v := ?_) (a' := ?_) (upD 11 7) rfl rfl (by kernel_rfl) (fun _ _ _ h => h) (Or.inl ⟨by rfl, ?_⟩) ?_ ?_
                (rotate_left; (intro w'; go_simp; with_reducible rfl); rotate_left; (simp only [Act.put, List.setIfInBounds_toArray, List.set_cons_zero, List.set_cons_succ]; rfl))
                refine pure_ (i := 9) (N := some 56) (v := ?_) (a' := ?_) #[true, true, true, true, true, true, true, false, false, true, false] rfl rfl (by kernel_rfl) (fun _ _ _ h => h) (Or.inl ⟨by rfl, ?_⟩) ?_ ?_
                (rotate_left; (intro w'; go_simp; with_reducible rfl); rotate_left; (simp only [Act.put, List.setIfInBounds_toArray, List.set_cons_zero, List.set_cons_succ]; rfl))
                obtain ⟨A9, cap9, hv9, hc9, hC9⟩ := HRD.out.row
                have hat9 := (cells3 hv9).2.1
                clear hv9 hc9 hC9
                refine one_ (i := 7) (N := some 54) (upY 11 10 8) rfl rfl (by kernel_rfl) (by decide) (fun K hK => ?_)
                rw [if_pos (by rfl)]
                go_simp
                have hHeld_ := hHeld
                refine hK.out _ _ hHeld_ (fun hHeld => ?_)
                clear hK K hHeld_ hat9
                refine one_ (i := 8) (N := some 55) (upD 11 10) rfl rfl (by kernel_rfl) (by decide) (fun K hK => ?_)
                refine goes_ Tryd.func21 (by kernel_rfl) rfl #[.pointer (some ⟨w2.heap.size + 1, 0, none⟩), .int .i64 1] (by rfl) rfl rfl (by (try simp only [List.map_toArray, List.map_cons, List.map_nil]); first | done | rfl) ?_
                with_reducible refine (source_byte w (w2.heap.size + 1) lt 1 w2.heap.size 1 _ hHeld HRD.out (by have := HLL.out; omega)).mono ?_
                rintro e w4 ⟨rfl, hr4, hb4, hk4⟩
                refine ⟨_, rfl, ?_⟩
                rw [show rd lt ((1 : Nat) : Int) = rd lt 1 from rfl]
                have HR4 := Aside0.mk hr4
                have HB4 := Aside0.mk hb4
                have HK4 := Aside0.mk (HK.out.then_ (show Kept wr w4 _ from hk4) (fun _ h => .inl h))
                clear hr4 hk4
                have hHeld_ := hHeld
                refine hK.out _ _ hb4 (fun hHeld => ?_)
                clear hK K hHeld_
                refine norm_ (a' := ?_) ?_ ?_
                (rotate_left; (show Act.put _ (some 55) _ = _; simp only [Act.put, List.setIfInBounds_toArray, List.set_cons_zero, List.set_cons_succ]; rfl))
                refine pure_ (i := 10) (N := some 57) (v := ?_) (a' := ?_) (upD 11 11) rfl rfl (by kernel_rfl) (fun _ _ _ h => h) (Or.inl ⟨by rfl, ?_⟩) ?_ ?_
                (rotate_left; (intro w'; go_simp; with_reducible rfl); rotate_left; (simp only [Act.put, List.setIfInBounds_toArray, List.set_cons_zero, List.set_cons_succ]; rfl))
                refine done_ (by kernel_rfl) ?_
                refine only_of ?_
                clear hHeld HB HR HRD HK
                go_wp2
                obtain ⟨A9, cap9, hv9, hc9, hC9⟩ := HR4.out.row
                obtain ⟨d0, d1, d2, e0, e1, e2⟩ := cells3 hv9
                clear hv9 hc9 hC9
                have HRX := Aside0.mk (show Res3 w4.drew w.heap.size (.slice none 0 0) 0 0 from (HRes.out.kept HK4.out (by have := HSW.out; omega)))
                have HBX := Aside0.mk (below_drew HB4.out)
                refine panq_n ?_
                refine start_ (n := 10) (S := fun w' => w'.cell? ⟨w2.heap.size + 1, 1, none⟩ = some (.int .i64 2)) (ds := []) (upD 10 0) (by kernel_rfl) rfl (by kernel_rfl) (show w4.drew.cell? ⟨w2.heap.size + 1, 1, none⟩ = _ from d1) (fun hHeld => ?_)
                refine pure_ (i := 0) (N := some 58) (v := ?_) (a' := ?_) (upD 10 1) rfl rfl (by kernel_rfl) (panq_put (by decide)) (Or.inl ⟨by rfl, ?_⟩) ?_ ?_
                (rotate_left; (intro w'; go_simp; with_reducible rfl); rotate_left; (simp only [Act.put, List.setIfInBounds_toArray, List.set_cons_zero, List.set_cons_succ]; rfl))
                refine pure_ (i := 1) (N := some 59) (v := ?_) (a' := ?_) (upD 10 2) rfl rfl (by kernel_rfl) (panq_put (by decide)) (Or.inl ⟨by rfl, ?_⟩) ?_ ?_
                (rotate_left; (intro w'; go_simp; with_reducible rfl); rotate_left; (simp only [Act.put, List.setIfInBounds_toArray, List.set_cons_zero, List.set_cons_succ]; rfl))
                refine pure_ (i := 2) (N := some 60) (v := ?_) (a' := ?_) (upD 10 3) rfl rfl (by kernel_rfl) (panq_put (by decide)) (Or.inl ⟨by rfl, ?_⟩) ?_ ?_
                (rotate_left; (intro w'; go_simp; with_reducible rfl); rotate_left; (simp only [Act.put, List.setIfInBounds_toArray, List.set_cons_zero, List.set_cons_succ]; rfl))
                refine pure_ (i := 3) (N := some 61) (v := ?_) (a' := ?_) (upD 10 4) rfl rfl (by kernel_rfl) (panq_put (by decide)) (Or.inl ⟨by rfl, ?_⟩) ?_ ?_
                (rotate_left; (intro w'; go_simp; with_reducible rfl); rotate_left; (simp only [Act.put, List.setIfInBounds_toArray, List.set_cons_zero, List.set_cons_succ]; rfl))
                refine pure_ (i := 4) (N := some 62) (v := ?_) (a' := ?_) (upD 10 5) rfl rfl (by kernel_rfl) (panq_put (by decide)) (Or.inl ⟨by rfl, ?_⟩) ?_ ?_
                (rotate_left; (intro w'; go_simp; with_reducible rfl); rotate_left; (simp only [Act.put, List.setIfInBounds_toArray, List.set_cons_zero, List.set_cons_succ]; rfl))
                refine pure_ (i := 5) (N := some 63) (v := ?_) (a' := ?_) (upD 10 6) rfl rfl (by kernel_rfl) (panq_put (by decide)) (Or.inl ⟨by rfl, ?_⟩) ?_ ?_
                (rotate_left; (intro w'; go_simp; with_reducible rfl); rotate_left; (simp only [Act.put, List.setIfInBounds_toArray, List.set_cons_zero, List.set_cons_succ]; rfl))
                refine pure_ (i := 6) (N := some 64) (v := ?_) (a' := ?_) (upD 10 7) rfl rfl (by kernel_rfl) (panq_put (by decide)) (Or.inl ⟨by rfl, ?_⟩) ?_ ?_
                (rotate_left; (intro w'; go_simp; with_reducible rfl); rotate_left; (simp only [Act.put, List.setIfInBounds_toArray, List.set_cons_zero, List.set_cons_succ]; rfl))
                refine take_ (i := 7) (N := some 65) (v := ?_) (a' := ?_) (upD 10 8) rfl rfl (by kernel_rfl) (panq_put (by decide)) (Or.inl ⟨by rfl, ?_⟩) hHeld ?_ ?_
                (rotate_left; (rintro w' s0; go_simp; with_reducible rfl); rotate_left; (simp only [Act.put, List.setIfInBounds_toArray, List.set_cons_zero, List.set_cons_succ]; rfl))
                refine pure_ (i := 8) (N := some 66) (v := ?_) (a' := ?_) (upD 10 9) rfl rfl (by kernel_rfl) (panq_put (by decide)) (Or.inl ⟨by rfl, ?_⟩) ?_ ?_
                (rotate_left; (intro w'; go_simp; with_reducible rfl); rotate_left; (simp only [Act.put, List.setIfInBounds_toArray, List.set_cons_zero, List.set_cons_succ]; rfl))
                refine one_ (i := 9) (N := some 67) (upD 10 10) rfl rfl (by kernel_rfl) (by decide) (fun K hK => ?_)
                refine callP_ Tryd.func22 (by kernel_rfl) rfl #[.pointer (some ⟨w2.heap.size + 1, 0, none⟩), .int .i64 1, .int .i64 61] (by rfl) rfl rfl (by (try simp only [List.map_toArray, List.map_cons, List.map_nil]); first | done | rfl) ?_
                refine (source_fail _ _ _ _).mono ?_
                rintro e w9 ⟨rfl, rfl⟩
                refine .inr ⟨_, rfl, ?_⟩
                intro a' hd9 h29 h39 h49
                show Leaves Tryd.prog Tryd.f10 a'.tmps _ a'.defers (.panicking _) _
                rw [hd9]
                refine dec_panic (g := w.heap.size) (h29.trans rfl) (h39.trans rfl) (h49.trans rfl) HRX.out (fun w' => by simp [go_sem]) ?_
                intro w' hr9 hb9
                exact ⟨.slice none 0 0, by rw [HD.out], by rw [HD.out]; exact Kd.R_nil _ _ _ _ _, (HBX.out).trans hb9⟩
            ·
              by_cases hm : rd lt 2 = 1
              · clear hlc
                go_wp2
                refine only_n ?_
                refine start_ (n := 11) (S := fun w' => Below w.heap.size w w') (ds := []) (upD 11 0) (by kernel_rfl) rfl (by kernel_rfl) (below_drew HB.out) (fun hHeld => ?_)
                have HRD := Aside0.mk (show RSt w wr.drew (w2.heap.size + 1) lt 2 w2.heap.size from HR.out.below (below_drew (Below.refl _ _)))
                refine pure_ (i := 0) (N := some 47) (v := ?_) (a' := ?_) (upD 11 1) rfl rfl (by kernel_rfl) (fun _ _ _ h => h) (Or.inl ⟨by rfl, ?_⟩) ?_ ?_
                (rotate_left; (intro w'; go_simp; with_reducible rfl); rotate_left; (simp only [Act.put, List.setIfInBounds_toArray, List.set_cons_zero, List.set_cons_succ]; rfl))
                refine pure_ (i := 1) (N := some 48) (v := ?_) (a' := ?_) (upD 11 2) rfl rfl (by kernel_rfl) (fun _ _ _ h => h) (Or.inl ⟨by rfl, ?_⟩) ?_ ?_
                (rotate_left; (intro w'; go_simp; with_reducible rfl); rotate_left; (simp only [Act.put, List.setIfInBounds_toArray, List.set_cons_zero, List.set_cons_succ]; rfl))
                refine pure_ (i := 2) (N := some 49) (v := ?_) (a' := ?_) (upD 11 3) rfl rfl (by kernel_rfl) (fun _ _ _ h => h) (Or.inl ⟨by rfl, ?_⟩) ?_ ?_
                (rotate_left; (intro w'; go_simp; with_reducible rfl); rotate_left; (simp only [Act.put, List.setIfInBounds_toArray, List.set_cons_zero, List.set_cons_succ]; rfl))
                refine pure_ (i := 3) (N := some 50) (v := ?_) (a' := ?_) (upD 11 4) rfl rfl (by kernel_rfl) (fun _ _ _ h => h) (Or.inl ⟨by rfl, ?_⟩) ?_ ?_
                (rotate_left; (intro w'; go_simp; with_reducible rfl); rotate_left; (simp only [Act.put, List.setIfInBounds_toArray, List.set_cons_zero, List.set_cons_succ]; rfl))
                refine pure_ (i := 4) (N := some 51) (v := ?_) (a' := ?_) (upD 11 5) rfl rfl (by kernel_rfl) (fun _ _ _ h => h) (Or.inl ⟨by rfl, ?_⟩) ?_ ?_
                (rotate_left; (intro w'; go_simp; with_reducible rfl); rotate_left; (simp only [Act.put, List.setIfInBounds_toArray, List.set_cons_zero, List.set_cons_succ]; rfl))
                refine pure_ (i := 5) (N := some 52) (v := ?_) (a' := ?_) (upD 11 6) rfl rfl (by kernel_rfl) (fun _ _ _ h => h) (Or.inl ⟨by rfl, ?_⟩) ?_ ?_
                (rotate_left; (intro w'; go_simp; with_reducible rfl); rotate_left; (simp only [Act.put, List.setIfInBounds_toArray, List.set_cons_zero, List.set_cons_succ]; rfl))
                refine pure_ (i := 6) (N := some 53) (v := ?_) (a' := ?_) (upD 11 7) rfl rfl (by kernel_rfl) (fun _ _ _ h => h) (Or.inl ⟨by rfl, ?_⟩) ?_ ?_
                (rotate_left; (intro w'; go_simp; with_reducible rfl); rotate_left; (simp only [Act.put, List.setIfInBounds_toArray, List.set_cons_zero, List.set_cons_succ]; rfl))
                refine pure_ (i := 9) (N := some 56) (v := ?_) (a' := ?_) #[true, true, true, true, true, true, true, false, false, true, false] rfl rfl (by kernel_rfl) (fun _ _ _ h => h) (Or.inl ⟨by rfl, ?_⟩) ?_ ?_
                (rotate_left; (intro w'; go_simp; with_reducible rfl); rotate_left; (simp only [Act.put, List.setIfInBounds_toArray, List.set_cons_zero, List.set_cons_succ]; rfl))
                obtain ⟨A9, cap9, hv9, hc9, hC9⟩ := HRD.out.row
                have hat9 := (cells3 hv9).2.1
                clear hv9 hc9 hC9
                refine one_ (i := 7) (N := some 54) (upY 11 10 8) rfl rfl (by kernel_rfl) (by decide) (fun K hK => ?_)
                rw [if_pos (by rfl)]
                go_simp
                have hHeld_ := hHeld
                refine hK.out _ _ hHeld_ (fun hHeld => ?_)
                clear hK K hHeld_ hat9
                refine one_ (i := 8) (N := some 55) (upD 11 10) rfl rfl (by kernel_rfl) (by decide) (fun K hK => ?_)
                refine goes_ Tryd.func21 (by kernel_rfl) rfl #[.pointer (some ⟨w2.heap.size + 1, 0, none⟩), .int .i64 2] (by rfl) rfl rfl (by (try simp only [List.map_toArray, List.map_cons, List.map_nil]); first | done | rfl) ?_
                with_reducible refine (source_byte w (w2.heap.size + 1) lt 2 w2.heap.size 2 _ hHeld HRD.out (by have := HLL.out; omega)).mono ?_
                rintro e w4 ⟨rfl, hr4, hb4, hk4⟩
                refine ⟨_, rfl, ?_⟩
                rw [show rd lt ((2 : Nat) : Int) = 1 from hm]
                have HR4 := Aside0.mk hr4
                have HB4 := Aside0.mk hb4
                have HK4 := Aside0.mk (HK.out.then_ (show Kept wr w4 _ from hk4) (fun _ h => .inl h))
                clear hr4 hk4
                have hHeld_ := hHeld
                refine hK.out _ _ hb4 (fun hHeld => ?_)
                clear hK K hHeld_
                refine norm_ (a' := ?_) ?_ ?_
                (rotate_left; (show Act.put _ (some 55) _ = _; simp only [Act.put, List.setIfInBounds_toArray, List.set_cons_zero, List.set_cons_succ]; rfl))
                refine pure_ (i := 10) (N := some 57) (v := ?_) (a' := ?_) (upD 11 11) rfl rfl (by kernel_rfl) (fun _ _ _ h => h) (Or.inl ⟨by rfl, ?_⟩) ?_ ?_
                (rotate_left; (intro w'; go_simp; with_reducible rfl); rotate_left; (simp only [Act.put, List.setIfInBounds_toArray, List.set_cons_zero, List.set_cons_succ]; rfl))
                refine done_ (by kernel_rfl) ?_
                refine only_of ?_
                clear hHeld HB HR HRD HK
                go_wp2
                go_roundg (gk - 1)
                case measure => omega
                case rel => exact ⟨3, rfl, by omega, HR4, HB4, HK4, ⟨fun _ => HHD.out.1 (by omega), fun _ => HHD.out.2.1 (by omega), fun _ => hm⟩⟩
              · clear hlc
                have hmb : (rd lt 2 != 1) = true := by simp [hm]
                have hd : decI nb fr fa rt sl l = ([], 2, 61) := by
                  rw [HDI.out, bodyS, show headB lt = some 2 from by rw [headB, if_neg (fun h => h (HHD.out.1 (by omega))), if_neg (fun h => h (HHD.out.2.1 (by omega))), if_pos hm]]
                  rfl
                have HD := Aside0.mk hd
                clear hd hm
                go_wp2
                refine only_n ?_
                refine start_ (n := 11) (S := fun w' => Below w.heap.size w w') (ds := []) (upD 11 0) (by kernel_rfl) rfl (by kernel_rfl) (below_drew HB.out) (fun hHeld => ?_)
                have HRD := Aside0.mk (show RSt w wr.drew (w2.heap.size + 1) lt 2 w2.heap.size from HR.out.below (below_drew (Below.refl _ _)))
                refine pure_ (i := 0) (N := some 47) (v := ?_) (a' := ?_) (upD 11 1) rfl rfl (by kernel_rfl) (fun _ _ _ h => h) (Or.inl ⟨by rfl, ?_⟩) ?_ ?_
                (rotate_left; (intro w'; go_simp; with_reducible rfl); rotate_left; (simp only [Act.put, List.setIfInBounds_toArray, List.set_cons_zero, List.set_cons_succ]; rfl))
                refine pure_ (i := 1) (N := some 48) (v := ?_) (a' := ?_) (upD 11 2) rfl rfl (by kernel_rfl) (fun _ _ _ h => h) (Or.inl ⟨by rfl, ?_⟩) ?_ ?_
                (rotate_left; (intro w'; go_simp; with_reducible rfl); rotate_left; (simp only [Act.put, List.setIfInBounds_toArray, List.set_cons_zero, List.set_cons_succ]; rfl))
                refine pure_ (i := 2) (N := some 49) (v := ?_) (a' := ?_) (upD 11 3) rfl rfl (by kernel_rfl) (fun _ _ _ h => h) (Or.inl ⟨by rfl, ?_⟩) ?_ ?_
                (rotate_left; (intro w'; go_simp; with_reducible rfl); rotate_left; (simp only [Act.put, List.setIfInBounds_toArray, List.set_cons_zero, List.set_cons_succ]; rfl))
                refine pure_ (i := 3) (N := some 50) (v := ?_) (a' := ?_) (upD 11 4) rfl rfl (by kernel_rfl) (fun _ _ _ h => h) (Or.inl ⟨by rfl, ?_⟩) ?_ ?_
                (rotate_left; (intro w'; go_simp; with_reducible rfl); rotate_left; (simp only [Act.put, List.setIfInBounds_toArray, List.set_cons_zero, List.set_cons_succ]; rfl))
                refine pure_ (i := 4) (N := some 51) (v := ?_) (a' := ?_) (upD 11 5) rfl rfl (by kernel_rfl) (fun _ _ _ h => h) (Or.inl ⟨by rfl, ?_⟩) ?_ ?_
                (rotate_left; (intro w'; go_simp; with_reducible rfl); rotate_left; (simp only [Act.put, List.setIfInBounds_toArray, List.set_cons_zero, List.set_cons_succ]; rfl))
                refine pure_ (i := 5) (N := some 52) (v := ?_) (a' := ?_) (upD 11 6) rfl rfl (by kernel_rfl) (fun _ _ _ h => h) (Or.inl ⟨by rfl, ?_⟩) ?_ ?_
                (rotate_left; (intro w'; go_simp; with_reducible rfl); rotate_left; (simp only [Act.put, List.setIfInBounds_toArray, List.set_cons_zero, List.set_cons_succ]; rfl))
                refine pure_ (i := 6) (N := some 53) (v := ?_) (a' := ?_) (upD 11 7) rfl rfl (by kernel_rfl) (fun _ _ _ h => h) (Or.inl ⟨by rfl, ?_⟩) ?_ ?_
                (rotate_left; (intro w'; go_simp; with_reducible rfl); rotate_left; (simp only [Act.put, List.setIfInBounds_toArray, List.set_cons_zero, List.set_cons_succ]; rfl))
                refine pure_ (i := 9) (N := some 56) (v := ?_) (a' := ?_) #[true, true, true, true, true, true, true, false, false, true, false] rfl rfl (by kernel_rfl) (fun _ _ _ h => h) (Or.inl ⟨by rfl, ?_⟩) ?_ ?_
                (rotate_left; (intro w'; go_simp; with_reducible rfl); rotate_left; (simp only [Act.put, List.setIfInBounds_toArray, List.set_cons_zero, List.set_cons_succ]; rfl))
                obtain ⟨A9, cap9, hv9, hc9, hC9⟩ := HRD.out.row
                have hat9 := (cells3 hv9).2.1
                clear hv9 hc9 hC9
                refine one_ (i := 7) (N := some 54) (upY 11 10 8) rfl rfl (by kernel_rfl) (by decide) (fun K hK => ?_)
                rw [if_pos (by rfl)]
                go_simp
                have hHeld_ := hHeld
                refine hK.out _ _ hHeld_ (fun hHeld => ?_)
                clear hK K hHeld_ hat9
                refine one_ (i := 8) (N := some 55) (upD 11 10) rfl rfl (by kernel_rfl) (by decide) (fun K hK => ?_)
                refine goes_ Tryd.func21 (by kernel_rfl) rfl #[.pointer (some ⟨w2.heap.size + 1, 0, none⟩), .int .i64 2] (by rfl) rfl rfl (by (try simp only [List.map_toArray, List.map_cons, List.map_nil]); first | done | rfl) ?_
                with_reducible refine (source_byte w (w2.heap.size + 1) lt 2 w2.heap.size 2 _ hHeld HRD.out (by have := HLL.out; omega)).mono ?_
                rintro e w4 ⟨rfl, hr4, hb4, hk4⟩
                refine ⟨_, rfl, ?_⟩
                rw [show rd lt ((2 : Nat) : Int) = rd lt 2 from rfl]
                have HR4 := Aside0.mk hr4
                have HB4 := Aside0.mk hb4
                have HK4 := Aside0.mk (HK.out.then_ (show Kept wr w4 _ from hk4) (fun _ h => .inl h))
                clear hr4 hk4
                have hHeld_ := hHeld
                refine hK.out _ _ hb4 (fun hHeld => ?_)
                clear hK K hHeld_
                refine norm_ (a' := ?_) ?_ ?_
                (rotate_left; (show Act.put _ (some 55) _ = _; simp only [Act.put, List.setIfInBounds_toArray, List.set_cons_zero, List.set_cons_succ]; rfl))
                refine pure_ (i := 10) (N := some 57) (v := ?_) (a' := ?_) (upD 11 11) rfl rfl (by kernel_rfl) (fun _ _ _ h => h) (Or.inl ⟨by rfl, ?_⟩) ?_ ?_
                (rotate_left; (intro w'; go_simp; with_reducible rfl); rotate_left; (simp only [Act.put, List.setIfInBounds_toArray, List.set_cons_zero, List.set_cons_succ]; rfl))
                refine done_ (by kernel_rfl) ?_
                refine only_of ?_
                clear hHeld HB HR HRD HK
                go_wp2
                obtain ⟨A9, cap9, hv9, hc9, hC9⟩ := HR4.out.row
                obtain ⟨d0, d1, d2, e0, e1, e2⟩ := cells3 hv9
                clear hv9 hc9 hC9
                have HRX := Aside0.mk (show Res3 w4.drew w.heap.size (.slice none 0 0) 0 0 from (HRes.out.kept HK4.out (by have := HSW.out; omega)))
                have HBX := Aside0.mk (below_drew HB4.out)
                refine panq_n ?_
                refine start_ (n := 10) (S := fun w' => w'.cell? ⟨w2.heap.size + 1, 1, none⟩ = some (.int .i64 3)) (ds := []) (upD 10 0) (by kernel_rfl) rfl (by kernel_rfl) (show w4.drew.cell? ⟨w2.heap.size + 1, 1, none⟩ = _ from d1) (fun hHeld => ?_)
                refine pure_ (i := 0) (N := some 58) (v := ?_) (a' := ?_) (upD 10 1) rfl rfl (by kernel_rfl) (panq_put (by decide)) (Or.inl ⟨by rfl, ?_⟩) ?_ ?_
                (rotate_left; (intro w'; go_simp; with_reducible rfl); rotate_left; (simp only [Act.put, List.setIfInBounds_toArray, List.set_cons_zero, List.set_cons_succ]; rfl))
                refine pure_ (i := 1) (N := some 59) (v := ?_) (a' := ?_) (upD 10 2) rfl rfl (by kernel_rfl) (panq_put (by decide)) (Or.inl ⟨by rfl, ?_⟩) ?_ ?_
                (rotate_left; (intro w'; go_simp; with_reducible rfl); rotate_left; (simp only [Act.put, List.setIfInBounds_toArray, List.set_cons_zero, List.set_cons_succ]; rfl))
                refine pure_ (i := 2) (N := some 60) (v := ?_) (a' := ?_) (upD 10 3) rfl rfl (by kernel_rfl) (panq_put (by decide)) (Or.inl ⟨by rfl, ?_⟩) ?_ ?_
                (rotate_left; (intro w'; go_simp; with_reducible rfl); rotate_left; (simp only [Act.put, List.setIfInBounds_toArray, List.set_cons_zero, List.set_cons_succ]; rfl))
                refine pure_ (i := 3) (N := some 61) (v := ?_) (a' := ?_) (upD 10 4) rfl rfl (by kernel_rfl) (panq_put (by decide)) (Or.inl ⟨by rfl, ?_⟩) ?_ ?_
                (rotate_left; (intro w'; go_simp; with_reducible rfl); rotate_left; (simp only [Act.put, List.setIfInBounds_toArray, List.set_cons_zero, List.set_cons_succ]; rfl))
                refine pure_ (i := 4) (N := some 62) (v := ?_) (a' := ?_) (upD 10 5) rfl rfl (by kernel_rfl) (panq_put (by decide)) (Or.inl ⟨by rfl, ?_⟩) ?_ ?_
                (rotate_left; (intro w'; go_simp; with_reducible rfl); rotate_left; (simp only [Act.put, List.setIfInBounds_toArray, List.set_cons_zero, List.set_cons_succ]; rfl))
                refine pure_ (i := 5) (N := some 63) (v := ?_) (a' := ?_) (upD 10 6) rfl rfl (by kernel_rfl) (panq_put (by decide)) (Or.inl ⟨by rfl, ?_⟩) ?_ ?_
                (rotate_left; (intro w'; go_simp; with_reducible rfl); rotate_left; (simp only [Act.put, List.setIfInBounds_toArray, List.set_cons_zero, List.set_cons_succ]; rfl))
                refine pure_ (i := 6) (N := some 64) (v := ?_) (a' := ?_) (upD 10 7) rfl rfl (by kernel_rfl) (panq_put (by decide)) (Or.inl ⟨by rfl, ?_⟩) ?_ ?_
                (rotate_left; (intro w'; go_simp; with_reducible rfl); rotate_left; (simp only [Act.put, List.setIfInBounds_toArray, List.set_cons_zero, List.set_cons_succ]; rfl))
                refine take_ (i := 7) (N := some 65) (v := ?_) (a' := ?_) (upD 10 8) rfl rfl (by kernel_rfl) (panq_put (by decide)) (Or.inl ⟨by rfl, ?_⟩) hHeld ?_ ?_
                (rotate_left; (rintro w' s0; go_simp; with_reducible rfl); rotate_left; (simp only [Act.put, List.setIfInBounds_toArray, List.set_cons_zero, List.set_cons_succ]; rfl))
                refine pure_ (i := 8) (N := some 66) (v := ?_) (a' := ?_) (upD 10 9) rfl rfl (by kernel_rfl) (panq_put (by decide)) (Or.inl ⟨by rfl, ?_⟩) ?_ ?_
                (rotate_left; (intro w'; go_simp; with_reducible rfl); rotate_left; (simp only [Act.put, List.setIfInBounds_toArray, List.set_cons_zero, List.set_cons_succ]; rfl))
                refine one_ (i := 9) (N := some 67) (upD 10 10) rfl rfl (by kernel_rfl) (by decide) (fun K hK => ?_)
                refine callP_ Tryd.func22 (by kernel_rfl) rfl #[.pointer (some ⟨w2.heap.size + 1, 0, none⟩), .int .i64 2, .int .i64 61] (by rfl) rfl rfl (by (try simp only [List.map_toArray, List.map_cons, List.map_nil]); first | done | rfl) ?_
                refine (source_fail _ _ _ _).mono ?_
                rintro e w9 ⟨rfl, rfl⟩
                refine .inr ⟨_, rfl, ?_⟩
                intro a' hd9 h29 h39 h49
                show Leaves Tryd.prog Tryd.f10 a'.tmps _ a'.defers (.panicking _) _
                rw [hd9]
                refine dec_panic (g := w.heap.size) (h29.trans rfl) (h39.trans rfl) (h49.trans rfl) HRX.out (fun w' => by simp [go_sem]) ?_
                intro w' hr9 hb9
                exact ⟨.slice none 0 0, by rw [HD.out], by rw [HD.out]; exact Kd.R_nil _ _ _ _ _, (HBX.out).trans hb9⟩
      · have hne : ((strOfNums (sl lt)).toList == (strOfNums l).toList) = false := strNums_ne hso ho h3
        refine only_n ?_
        refine start_ (n := 10) (S := fun w' => Below W0.heap.size W0 w') (ds := []) (upD 10 0) (by kernel_rfl) rfl (by kernel_rfl) (below_drew (Below.refl _ _)) (fun hHeld => ?_)
        refine pure_ (i := 0) (N := some 21) (v := ?_) (a' := ?_) (upD 10 1) rfl rfl (by kernel_rfl) (fun _ _ _ h => h) (Or.inl ⟨by rfl, ?_⟩) ?_ ?_
        (rotate_left; (intro w'; go_simp; with_reducible rfl); rotate_left; (simp only [Act.put, List.setIfInBounds_toArray, List.set_cons_zero, List.set_cons_succ]; rfl))
        refine pure_ (i := 1) (N := some 22) (v := ?_) (a' := ?_) (upD 10 2) rfl rfl (by kernel_rfl) (fun _ _ _ h => h) (Or.inl ⟨by rfl, ?_⟩) ?_ ?_
        (rotate_left; (intro w'; go_simp; with_reducible rfl); rotate_left; (simp only [Act.put, List.setIfInBounds_toArray, List.set_cons_zero, List.set_cons_succ]; rfl))
        refine pure_ (i := 6) (N := some 27) (v := ?_) (a' := ?_) #[true, true, false, false, false, false, true, false, false, false] rfl rfl (by kernel_rfl) (fun _ _ _ h => h) (Or.inl ⟨by rfl, ?_⟩) ?_ ?_
        (rotate_left; (intro w'; go_simp; with_reducible rfl); rotate_left; (simp only [Act.put, List.setIfInBounds_toArray, List.set_cons_zero, List.set_cons_succ]; rfl))
        refine take_ (i := 7) (N := some 28) (v := ?_) (a' := ?_) #[true, true, false, false, false, false, true, true, false, false] rfl rfl (by kernel_rfl) (fun _ _ _ h => h) (Or.inl ⟨by rfl, ?_⟩) hHeld ?_ ?_
        (rotate_left; (intro w' s0; have hs1 := hst w' s0; go_simp; with_reducible rfl); rotate_left; (simp only [Act.put, List.setIfInBounds_toArray, List.set_cons_zero, List.set_cons_succ]; rfl))
        refine pure_ (i := 2) (N := some 23) (v := ?_) (a' := ?_) #[true, true, true, false, false, false, true, true, false, false] rfl rfl (by kernel_rfl) (fun _ _ _ h => h) (Or.inl ⟨by rfl, ?_⟩) ?_ ?_
        (rotate_left; (intro w'; go_simp; with_reducible rfl); rotate_left; (simp only [Act.put, List.setIfInBounds_toArray, List.set_cons_zero, List.set_cons_succ]; rfl))
        refine one_ (i := 3) (N := some 24) #[true, true, true, true, false, false, true, true, false, false] rfl rfl (by kernel_rfl) (by decide) (fun K hK => ?_)
        refine Kd.R_append_rows_step (Kd.int .u8) (w0 := W0) W0.heap.size (by rfl) (.const (.slice none 0 0)) (.tmp 23) 25 5 (.int .u8 0) 1 rfl Tryd.underlying25 uint8_info rfl (by decide) (by decide) (.slice none 0 0) [] lt A0 lt.length c0 (fun _ => True) (fun _ => False) rfl rfl (Kd.R_nil _ _ _ _ _) (HCT.out _ hHeld) (fun _ _ h => h) (fun _ hk => hk.elim) (fun _ _ => trivial) hHeld hHeld.size HLT.out ?_
        intro v1 w1 hr1 hb1 hg1 hat1
        have HR1 := Aside0.mk hr1
        clear hr1 hat1
        have hHeld_ := hHeld
        refine hK.out _ _ hb1 (fun hHeld => ?_)
        clear hK K hHeld_
        refine norm_ (a' := ?_) ?_ ?_
        (rotate_left; (show Act.put _ (some 24) _ = _; simp only [Act.put, List.setIfInBounds_toArray, List.set_cons_zero, List.set_cons_succ]; rfl))
        refine one_ (i := 4) (N := some 25) (upY 10 8 5) rfl rfl (by kernel_rfl) (by decide) (fun K hK => ?_)
        refine goes_ Tryd.func19 (by kernel_rfl) rfl #[v1] (by rfl) rfl rfl (by (try simp only [List.map_toArray, List.map_cons, List.map_nil]); first | done | rfl) ?_
        with_reducible refine (hsl v1 lt W0 _ hHeld (by simpa using HR1.out) hps).mono ?_
        rintro e w2 ⟨v2, rfl, hr2, hb2⟩
        refine ⟨_, rfl, ?_⟩
        obtain ⟨A2, n2, c2, rfl⟩ := slice3 hr2
        have hcv := Kd.C_string Tryd.underlying25 Tryd.underlying5 Tryd.underlying9 (c := c2) (Kd.R_reads' hr2).2.2
        rw [← (Kd.R_reads' hr2).1] at hcv
        clear hr2
        have HB2_ := Aside0.mk hb2
        have hHeld_ := hHeld
        refine hK.out _ _ hb2 (fun hHeld => ?_)
        clear hK K hHeld_
        refine norm_ (a' := ?_) ?_ ?_
        (rotate_left; (show Act.put _ (some 25) _ = _; simp only [Act.put, List.setIfInBounds_toArray, List.set_cons_zero, List.set_cons_succ]; rfl))
        refine one_ (i := 5) (N := some 26) (upD 10 8) rfl rfl (by kernel_rfl) (by decide) (fun K hK => ?_)
        rw [if_pos (by rfl)]
        go_simp
        have hHeld_ := hHeld
        refine hK.out _ _ hHeld_ (fun hHeld => ?_)
        clear hK K hHeld_ hcv
        refine pure_ (i := 8) (N := some 29) (v := ?_) (a' := ?_) (upD 10 9) rfl rfl (by kernel_rfl) (fun _ _ _ h => h) (Or.inl ⟨by rfl, ?_⟩) ?_ ?_
        (rotate_left; (intro w'; go_simp; with_reducible rfl); rotate_left; (simp only [Act.put, List.setIfInBounds_toArray, List.set_cons_zero, List.set_cons_succ]; rfl))
        refine pure_ (i := 9) (N := some 20) (v := ?_) (a' := ?_) (upD 10 10) rfl rfl (by kernel_rfl) (fun _ _ _ h => h) (Or.inl ⟨by rfl, ?_⟩) ?_ ?_
        (rotate_left; (intro w'; go_simp; with_reducible rfl); rotate_left; (simp only [Act.put, List.setIfInBounds_toArray, List.set_cons_zero, List.set_cons_succ]; rfl))
        refine done_ (by kernel_rfl) ?_
        refine only_of ?_
        have HR2 := Aside0.mk (HR0.out.below hHeld)
        have c0 : w2.cell? ⟨w.heap.size, 0, none⟩ = some (.slice none 0 0) := cell_of_one HR2.out.1
        have c1 : w2.cell? ⟨w.heap.size + 1, 0, none⟩ = some (.int .i64 0) := cell_of_one HR2.out.2.1
        have c2 : w2.cell? ⟨w.heap.size + 1 + 1, 0, none⟩ = some (.int .i64 0) := cell_of_one HR2.out.2.2
        have f0 : w2.frozen? ⟨w.heap.size, 0, none⟩ = false := free_of_one HR2.out.1
        have f1 : w2.frozen? ⟨w.heap.size + 1, 0, none⟩ = false := free_of_one HR2.out.2.1
        have f2 : w2.frozen? ⟨w.heap.size + 1 + 1, 0, none⟩ = false := free_of_one HR2.out.2.2
        have HHeld := Aside0.mk hHeld
        have hd : decI nb fr fa rt sl l = ([], (l.length : Int) - 4, 271) := by
          rw [decI, if_neg h1, if_neg h2, ← HLT2.out, if_pos h3, show ((l.length - 4 : Nat) : Int) = (l.length : Int) - 4 by omega]
        have HD := Aside0.mk hd
        clear hHeld hd
        go_wp2
        exact ⟨_, res3_out (((HR2.out.set0 (.slice none 0 0)).set1 _).set2 271) _ _ _, .slice none 0 0, by rw [HD.out], by rw [HD.out]; exact Kd.R_nil _ _ _ _ _, (((below_step HB0.out HHeld.out).setCell (p := ⟨w.heap.size, 0, none⟩) (Nat.le_refl _) _).setCell (p := ⟨w.heap.size + 1, 0, none⟩) (Nat.le_succ _) _).setCell (p := ⟨w.heap.size + 1 + 1, 0, none⟩) (by show w.heap.size ≤ w.heap.size + 1 + 1; omega) _⟩
end Go.Proofs.YtahdjajdaggmjaaDoor.XPo
