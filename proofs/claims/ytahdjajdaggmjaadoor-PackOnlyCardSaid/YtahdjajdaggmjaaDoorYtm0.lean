/-
Reading terms: what is read, in plain words; the state of the reader's walk through a term.
-/
import Derived.Test.YtahdjajdaggmjaaDoorYrow
import Derived.Test.YtahdjajdaggmjaaDoorZwrong
set_option linter.unusedVariables false
set_option linter.unusedSimpArgs false
namespace Go.Proofs.YtahdjajdaggmjaaDoor.XPo
open Go.RowKit Go.Proofs.YtahdjajdaggmjaaDoorW.PrintWords Go.Proofs.YtahdjajdaggmjaaDoorW.PrintLast Go.Proofs.YtahdjajdaggmjaaDoorW.PrintMore

section
variable (nb : ByteArray → Bool) (fr fa : List Cl → Bool) (bs : List Int)
/-- What stands between the kind and the kids. -/
def headS (k : Int) (s : Nat) : Except (Int × Int) ((Int × ByteArray × List Cl) × Nat) :=
  if k = 1 then match numS bs s with
    | .error e => .error e
    | .ok (n, s1) => .ok (((n : Int), ⟨#[]⟩, []), s1)
  else if k = 2 then match textS nb bs s with
    | .error e => .error e
    | .ok (x, s1) => .ok ((0, x, []), s1)
  else if k = 13 ∨ k = 21 ∨ k = 26 then match rowS fr bs s with
    | .error e => .error e
    | .ok (f, s1) => .ok ((0, ⟨#[]⟩, f), s1)
  else if k = 14 then match rowS fa bs s with
    | .error e => .error e
    | .ok (f, s1) => .ok ((0, ⟨#[]⟩, f), s1)
  else .ok ((0, ⟨#[]⟩, []), s)
/-- So many terms. -/
def manyS (T : Nat → Except (Int × Int) (Tm × Nat)) : Nat → List Tm → Nat → Except (Int × Int) (List Tm × Nat)
  | 0, acc, s => .ok (acc, s)
  | n + 1, acc, s => match T s with
    | .error e => .error e
    | .ok (t, s1) => manyS T n (acc ++ [t]) s1
/-- So many branches of q terms each. -/
def brS (T : Nat → Except (Int × Int) (Tm × Nat)) (q : Nat) : Nat → List Br → Nat → Except (Int × Int) (List Br × Nat)
  | 0, acc, s => .ok (acc, s)
  | n + 1, acc, s => match rowS fa bs s with
    | .error e => .error e
    | .ok (f, s1) => match manyS T q [] s1 with
      | .error e => .error e
      | .ok (ks, s2) => brS T q n (acc ++ [⟨f, ks⟩]) s2
def brK (T : Nat → Except (Int × Int) (Tm × Nat)) (q n : Nat) (acc : List Br) (f : List Cl) : Except (Int × Int) (List Tm × Nat) → Except (Int × Int) (List Br × Nat)
  | .error e => .error e
  | .ok (ks, s2) => brS fa bs T q n (acc ++ [⟨f, ks⟩]) s2
theorem brS_ok {T : Nat → Except (Int × Int) (Tm × Nat)} {q n s s1 : Nat} {acc : List Br} {f : List Cl} (h : rowS fa bs s = .ok (f, s1)) : brS fa bs T q (n + 1) acc s = brK fa bs T q n acc f (manyS T q [] s1) := by
  rw [brS, h]
  dsimp only
  cases manyS T q [] s1 <;> rfl
theorem brS_er {T : Nat → Except (Int × Int) (Tm × Nat)} {q n s : Nat} {acc : List Br} {y : Int × Int} (h : rowS fa bs s = .error y) : brS fa bs T q (n + 1) acc s = .error y := by
  rw [brS, h]
/-- Kids and branches, behind the head. -/
def tailL (k n : Int) (x : ByteArray) (r : List Cl) (ks : List Tm) : Except (Int × Int) (List Br × Nat) → Except (Int × Int) (Tm × Nat)
  | .error e => .error e
  | .ok (l, s4) => .ok (⟨k, n, x, r, ks, l⟩, s4)
def tailN (T : Nat → Except (Int × Int) (Tm × Nat)) (k n : Int) (x : ByteArray) (r : List Cl) (ks : List Tm) : Except (Int × Int) (Nat × Nat) → Except (Int × Int) (Tm × Nat)
  | .error e => .error e
  | .ok (c, s3) => tailL k n x r ks (brS fa bs T (partsI k).toNat c [] s3)
def tailK (T : Nat → Except (Int × Int) (Tm × Nat)) (k n : Int) (x : ByteArray) (r : List Cl) : Except (Int × Int) (List Tm × Nat) → Except (Int × Int) (Tm × Nat)
  | .error e => .error e
  | .ok (ks, s2) => if partsI k = 0 then .ok (⟨k, n, x, r, ks, []⟩, s2) else tailN fa bs T k n x r ks (numS bs s2)
def tailS (T : Nat → Except (Int × Int) (Tm × Nat)) (k : Int) : Except (Int × Int) ((Int × ByteArray × List Cl) × Nat) → Except (Int × Int) (Tm × Nat)
  | .error e => .error e
  | .ok ((n, x, r), s1) => tailK fa bs T k n x r (manyS T (kidsI k).toNat [] s1)
/-- A term; how much deeper it may be. -/
def termS : Nat → Nat → Except (Int × Int) (Tm × Nat)
  | 0, s => if s < bs.length then if kidsI (rd bs s) < 0 then .error ((s : Int), 61) else .error ((s : Int), 62) else .error ((s : Int), 61)
  | d + 1, s => if s < bs.length then if kidsI (rd bs s) < 0 then .error ((s : Int), 61) else tailS fa bs (termS d) (rd bs s) (headS nb fr fa bs (rd bs s) (s + 1)) else .error ((s : Int), 61)
end
/-- What the reader's callees do. -/
structure ReadP (PN : ByteArray → Prop) (PF : List Cl → Prop) (nb : ByteArray → Bool) (fr fa : List Cl → Bool) : Prop where
  named : ∀ (s : ByteArray) (w : World), Tab w → PN s → Calls Tryd.prog 26 #[.string s] w fun e w' => e = .returned (.bool (nb s)) ∧ Below w.heap.size w w'
  fright : ∀ (A : Option Addr) (c : Nat) (l : List Cl) (w : World), Kd.C k91 w A l.length l → l.length ≤ c → PF l → Calls Tryd.prog 48 #[.slice A l.length c] w fun e w' => e = .returned (.bool (fr l)) ∧ Below w.heap.size w w'
  faright : ∀ (A : Option Addr) (c : Nat) (l : List Cl) (w : World), Kd.C k91 w A l.length l → l.length ≤ c → PF l → Calls Tryd.prog 49 #[.slice A l.length c] w fun e w' => e = .returned (.bool (fa l)) ∧ Below w.heap.size w w'
  kids : ∀ (a : Int) (w : World), Calls Tryd.prog 46 #[.int .i64 a] w fun e w' => e = .returned (.int .i64 (kidsI a)) ∧ Below w.heap.size w w'
  parts : ∀ (a : Int) (w : World), Calls Tryd.prog 29 #[.int .i64 a] w fun e w' => e = .returned (.int .i64 (partsI a)) ∧ Below w.heap.size w w'
  pn : ∀ s : ByteArray, s.size ≤ 1048576 → PN s
  pf : ∀ (f : List Cl), f.length ≤ 64 → (∀ x ∈ f, 0 ≤ x.f0 ∧ x.f0 ≤ 2147483647 ∧ 0 ≤ x.f1 ∧ x.f1 ≤ 2147483647) → PF f
/-- A term that was made from base on. -/
def tmV (base : Nat) (t : Tm) (w : World) (v : Value) : Prop := ∃ cs : List Value, v = .agg cs.toArray ∧ k45.M w base (fun _ => True) t cs
theorem tm_info : (Tryd.prog.info? 45).map (fun i => (i.zero, i.size, i.bytes)) = some (some (.agg #[.int .i64 0, .int .i64 0, .string ⟨#[]⟩, .slice none 0 0, .slice none 0 0, .slice none 0 0]), 6, 104) := by kernel_rfl
theorem br_info : (Tryd.prog.info? 73).map (fun i => (i.zero, i.size, i.bytes)) = some (some (.agg #[.slice none 0 0, .slice none 0 0]), 2, 48) := by kernel_rfl
theorem R_stayN {α : Type} {d : Kd α} {e base N : Nat} {w w1 : World} {v : Value} {xs : List α} {S : Nat → Prop} (h : d.R e w base (fun k => k < N) v xs) (hk : Kept w w1 S) (hS : ∀ k, S k → k < base ∨ N ≤ k) : d.R e w1 base (fun k => k < N) v xs :=
  Kd.R_mono (ok := fun k => k < N ∧ base ≤ k ∧ k < w.heap.size ∧ ∃ q, q ∈ e :: d.E ∧ ∃ cells, w.heap[k]? = some (.cells cells q (0, 0))) (Kd.R_kept (Kd.R_bound h) hk (fun k hk1 hk2 => by rcases hS k hk2 with h | h <;> omega)) (fun _ hk => hk.1)
theorem R_done {α : Type} {d : Kd α} {e base base2 N : Nat} {w : World} {v : Value} {xs : List α} (h : d.R e w base (fun _ => True) v xs) (hb : base2 ≤ base) (hN : w.heap.size ≤ N) : d.R e w base2 (fun k => k < N) v xs :=
  Kd.R_lower (Kd.R_mono (Kd.R_bound h) (fun k hk => by have := hk.2.2.1; omega)) hb
theorem R_wide {α : Type} {d : Kd α} {e base N N2 : Nat} {w : World} {v : Value} {xs : List α} (h : d.R e w base (fun k => k < N) v xs) (hN : N ≤ N2) : d.R e w base (fun k => k < N2) v xs := Kd.R_mono h (fun k hk => by omega)
abbrev zeroTm : Array Value := #[.int .i64 0, .int .i64 0, .string ⟨#[]⟩, .slice none 0 0, .slice none 0 0, .slice none 0 0]
/-- A call in a region that draws its order; it may end in a panic. -/
theorem callP_ {P : Program} {ops : Array Oper} {Q : Exit → Act → World → Prop} {oi : Oper} {N : Option Tmp} {a : Act} {w : World} {K : Act → World → Prop} {f : FuncId} {fn : Func} {xs : Array Operand} {ts : Array TypeId} (hf : P.funcs[f]? = some fn) (hname : (fn.name == "runtime.NumGoroutine") = false) (hb : fn.body.isSome = true) (args : Array Value)
    (hw : Region.wanted oi (yielded ops a.tmps) = true) (hN : oi.dst = N) (hop : oi.op = .call { callee := .value (.func f), args := xs, argTypes := ts }) (hargs : xs.map a.eval = args)
    (h : Calls P f args w fun e w' => (∃ v, e = .returned v ∧ K (a.put N v) w') ∨ (∃ c, e = .panicked c ∧ Q (.panic c) a w')) : if Region.wanted oi (yielded ops a.tmps) = true then Oper.wp P oi a w K Q else K (a.put N undef) w := by
  have he := enters_ hf hname hb args w
  have hrun : (execOp a.eval oi).run P w = .ok (.enter f args) w := by
    unfold execOp
    simp [hop, resolve, Deferred.ofValue, invoke, Act.eval, hargs, he]
  rw [if_pos hw]
  subst hN
  unfold Oper.wp
  rw [hrun, Oper.upon_enter]
  refine h.mono fun e w'' hh => ?_
  rcases hh with ⟨v, rfl, hk⟩ | ⟨c, rfl, hk⟩
  · exact hk
  · exact hk
/-- Cells of a term that was made: the rows are slices. -/
theorem tm_cells {w : World} {base : Nat} {t : Tm} {cs : List Value} (h : k45.M w base (fun _ => True) t cs) : ∃ A3 c3 A4 c4 A5 c5, cs = [.int .i64 t.f0, .int .i64 t.f1, .string t.f2, .slice A3 t.f3.length c3, .slice A4 t.f4.length c4, .slice A5 t.f5.length c5] := by
  obtain ⟨v3, v4, v5, rfl, g3, g4, g5⟩ := k45_openM h
  obtain ⟨A3, c3, rfl⟩ := Kd.R_slice g3
  obtain ⟨A4, c4, rfl⟩ := Kd.R_slice g4
  obtain ⟨A5, c5, rfl⟩ := Kd.R_slice g5
  exact ⟨A3, c3, A4, c4, A5, c5, rfl⟩
theorem M_from {α : Type} {d : Kd α} {base base2 : Nat} {w : World} {x : α} {cs : List Value} (h : d.M w base (fun _ => True) x cs) (hb : base2 ≤ base) : d.M w base2 (fun k => base ≤ k) x cs :=
  d.M_lower hb (d.M_mono (fun k hk => hk.2.1) (d.M_bound h))
theorem R_from {α : Type} {d : Kd α} {e base base2 : Nat} {ok : Nat → Prop} {w : World} {v : Value} {xs : List α} (h : d.R e w base ok v xs) (hb : base2 ≤ base) : d.R e w base2 (fun k => base ≤ k) v xs :=
  Kd.R_lower (Kd.R_mono (Kd.R_bound h) (fun k hk => hk.2.1)) hb
/-- The state within a term: the reader, the result's block b4 (zeroes yet), the term's block b6, the rows that are finished (they lie below N). -/
structure Tst (w0 w wx : World) (p m : Nat) (bs : List Int) (s b4 b6 N : Nat) (t : Tm) (v3 v4 v5 u3 u4 u5 : Value) : Prop where
  rs : RSt w0 wx p bs s m
  be : Below w0.heap.size w0 wx
  ke : Kept w wx (fun k => k = p)
  c4 : wx.heap[b4]? = some (.cells zeroTm 45 (0, 0))
  c6 : wx.heap[b6]? = some (.cells #[.int .i64 t.f0, .int .i64 t.f1, .string t.f2, u3, u4, u5] 45 (0, 0))
  r3 : Kd.R k91 91 wx (b6 + 1) (fun k => k < N) v3 t.f3
  r4 : Kd.R k45 45 wx (b6 + 1) (fun k => k < N) v4 t.f4
  r5 : Kd.R k73 73 wx (b6 + 1) (fun k => k < N) v5 t.f5
  o1 : w.heap.size ≤ b4
  o2 : b4 < b6
  o3 : p < w.heap.size
  o4 : b6 < N
  o5 : N ≤ wx.heap.size
section
variable {w0 w wx wy : World} {p m : Nat} {bs : List Int} {s s2 b4 b6 N N2 : Nat} {t : Tm} {v3 v4 v5 u3 u4 u5 : Value}
/-- What was written is new, or another row. -/
theorem Tst.move (h : Tst w0 w wx p m bs s b4 b6 N t v3 v4 v5 u3 u4 u5) (hk : Kept wx wy (fun k => k = p ∨ N ≤ k)) (hb : Below w0.heap.size w0 wy) (hr : RSt w0 wy p bs s2 m) : Tst w0 w wy p m bs s2 b4 b6 N t v3 v4 v5 u3 u4 u5 where
  rs := hr
  be := hb
  ke := h.ke.then_ hk (fun k hk2 => by have := h.o1; have := h.o2; have := h.o4; rcases hk2 with h1 | h1; · exact .inl h1
                                       · exact .inr (by omega))
  c4 := blk_kept h.c4 hk (by have := h.o1; have := h.o2; have := h.o3; have := h.o4; omega)
  c6 := blk_kept h.c6 hk (by have := h.o1; have := h.o2; have := h.o3; have := h.o4; omega)
  r3 := R_stayN h.r3 hk (fun k hk2 => by have := h.o1; have := h.o2; have := h.o3; omega)
  r4 := R_stayN h.r4 hk (fun k hk2 => by have := h.o1; have := h.o2; have := h.o3; omega)
  r5 := R_stayN h.r5 hk (fun k hk2 => by have := h.o1; have := h.o2; have := h.o3; omega)
  o1 := h.o1
  o2 := h.o2
  o3 := h.o3
  o4 := h.o4
  o5 := Nat.le_trans h.o5 hk.1
theorem Tst.call (h : Tst w0 w wx p m bs s b4 b6 N t v3 v4 v5 u3 u4 u5) (hb : Below w0.heap.size w0 wy) (hk : Kept wx wy (fun k => k = p)) (hr : RSt w0 wy p bs s2 m) : Tst w0 w wy p m bs s2 b4 b6 N t v3 v4 v5 u3 u4 u5 :=
  h.move (hk.mono fun _ h => .inl h) hb hr
theorem Tst.below (h : Tst w0 w wx p m bs s b4 b6 N t v3 v4 v5 u3 u4 u5) (hb : Below wx.heap.size wx wy) : Tst w0 w wy p m bs s b4 b6 N t v3 v4 v5 u3 u4 u5 :=
  h.move (Kept.of_below hb _) (below_step h.be hb) (h.rs.below hb)
theorem Tst.wide (h : Tst w0 w wx p m bs s b4 b6 N t v3 v4 v5 u3 u4 u5) (hN : N ≤ N2) (h2 : N2 ≤ wx.heap.size) : Tst w0 w wx p m bs s b4 b6 N2 t v3 v4 v5 u3 u4 u5 :=
  ⟨h.rs, h.be, h.ke, h.c4, h.c6, R_wide h.r3 hN, R_wide h.r4 hN, R_wide h.r5 hN, h.o1, h.o2, h.o3, Nat.lt_of_lt_of_le h.o4 hN, h2⟩
theorem six_set {w : World} {b ty : Nat} {x0 x1 x2 x3 x4 x5 : Value} (h : w.heap[b]? = some (.cells #[x0, x1, x2, x3, x4, x5] ty (0, 0))) (i : Nat) (u : Value) : (w.setCell ⟨b, i, none⟩ u).heap[b]? = some (.cells (#[x0, x1, x2, x3, x4, x5].setIfInBounds i u) ty (0, 0)) := by
  have hlt := lt_of_block h
  have h' : w.heap[b] = .cells #[x0, x1, x2, x3, x4, x5] ty (0, 0) := by simpa [Array.getElem?_eq_getElem hlt] using h
  show (w.heap.modify b _)[b]? = _
  rw [Array.getElem?_eq_getElem (by simpa using hlt), Array.getElem_modify_self, h']
  rfl
/-- A field of the term's block is written. -/
theorem Tst.put (h : Tst w0 w wx p m bs s b4 b6 N t v3 v4 v5 u3 u4 u5) (i : Nat) (u : Value) {t2 : Tm} {x3 x4 x5 y3 y4 y5 : Value} (hc : #[Value.int .i64 t.f0, .int .i64 t.f1, .string t.f2, u3, u4, u5].setIfInBounds i u = #[.int .i64 t2.f0, .int .i64 t2.f1, .string t2.f2, y3, y4, y5])
    (h3 : Kd.R k91 91 (wx.setCell ⟨b6, i, none⟩ u) (b6 + 1) (fun k => k < N2) x3 t2.f3) (h4 : Kd.R k45 45 (wx.setCell ⟨b6, i, none⟩ u) (b6 + 1) (fun k => k < N2) x4 t2.f4) (h5 : Kd.R k73 73 (wx.setCell ⟨b6, i, none⟩ u) (b6 + 1) (fun k => k < N2) x5 t2.f5) (hN : N ≤ N2) (hN2 : N2 ≤ wx.heap.size) :
    Tst w0 w (wx.setCell ⟨b6, i, none⟩ u) p m bs s b4 b6 N2 t2 x3 x4 x5 y3 y4 y5 := by
  have hk : Kept wx (wx.setCell ⟨b6, i, none⟩ u) (fun k => k = b6) := (Kept.refl wx (fun k => k = b6)).setCell (p := ⟨b6, i, none⟩) (.inl rfl) u
  have o1 := h.o1
  have o2 := h.o2
  have o3 := h.o3
  have o4 := h.o4
  refine ⟨h.rs.kept hk (by omega), h.be.setCell (p := ⟨b6, i, none⟩) (by have := h.rs.old; show w0.heap.size ≤ b6; omega) u, h.ke.setCell (p := ⟨b6, i, none⟩) (.inr (by show w.heap.size ≤ b6; omega)) u, blk_kept h.c4 hk (by omega), ?_, h3, h4, h5, o1, o2, o3, by omega, by rw [World.size_setCell]; exact hN2⟩
  rw [← hc]
  exact six_set h.c6 i u
theorem R_set6 {α : Type} {d : Kd α} {e : Nat} {ok : Nat → Prop} {v : Value} {xs : List α} (h : d.R e wx (b6 + 1) ok v xs) (i : Nat) (u : Value) : d.R e (wx.setCell ⟨b6, i, none⟩ u) (b6 + 1) ok v xs :=
  Kd.R_mono (ok := fun k => ok k ∧ b6 + 1 ≤ k ∧ k < wx.heap.size ∧ ∃ q, q ∈ e :: d.E ∧ ∃ cells, wx.heap[k]? = some (.cells cells q (0, 0))) (Kd.R_far (Kd.R_bound h) (p := ⟨b6, i, none⟩) (fun k hk => by show k ≠ b6; have := hk.2.1; omega) u) (fun _ hk => hk.1)
theorem cells6 {w : World} {b ty : Nat} {x0 x1 x2 x3 x4 x5 : Value} (h : w.heap[b]? = some (.cells #[x0, x1, x2, x3, x4, x5] ty (0, 0))) : w.cell? ⟨b, 0, none⟩ = some x0 ∧ w.cell? ⟨b, 1, none⟩ = some x1 ∧ w.cell? ⟨b, 2, none⟩ = some x2 ∧ w.cell? ⟨b, 3, none⟩ = some x3 ∧ w.cell? ⟨b, 4, none⟩ = some x4 ∧ w.cell? ⟨b, 5, none⟩ = some x5 ∧ w.frozen? ⟨b, 0, none⟩ = false ∧ w.frozen? ⟨b, 1, none⟩ = false ∧ w.frozen? ⟨b, 2, none⟩ = false ∧ w.frozen? ⟨b, 3, none⟩ = false ∧ w.frozen? ⟨b, 4, none⟩ = false ∧ w.frozen? ⟨b, 5, none⟩ = false := by
  simp [World.cell?, World.frozen?, h]
/-- The kids are finished. -/
theorem Tst.kids {k n : Int} {x : ByteArray} {r : List Cl} {ks : List Tm} {N' : Nat} (h : Tst w0 w wx p m bs s b4 b6 N ⟨k, n, x, r, [], []⟩ v3 v4 v5 u3 u4 u5) {vk : Value} (hg : Kd.R k45 45 wx N' (fun _ => True) vk ks) (hN : b6 < N') (h2 : N2 = wx.heap.size) :
    Tst w0 w wx p m bs s b4 b6 N2 ⟨k, n, x, r, ks, []⟩ v3 vk (.slice none 0 0) u3 u4 u5 := by
  subst h2
  exact ⟨h.rs, h.be, h.ke, h.c4, h.c6, R_wide h.r3 h.o5, R_done hg hN (Nat.le_refl _), Kd.R_nil _ _ _ _ _, h.o1, h.o2, h.o3, Nat.lt_of_lt_of_le h.o4 h.o5, Nat.le_refl _⟩
/-- The result's block, written whole. -/
theorem Tst.fin (h : Tst w0 w wx p m bs s b4 b6 N t v3 v4 v5 u3 u4 u5) (y0 y1 y2 y3 y4 y5 : Value) :
    ((((((wx.setCell ⟨b4, 0, none⟩ y0).setCell ⟨b4, 1, none⟩ y1).setCell ⟨b4, 2, none⟩ y2).setCell ⟨b4, 3, none⟩ y3).setCell ⟨b4, 4, none⟩ y4).setCell ⟨b4, 5, none⟩ y5).heap[b4]? = some (.cells #[y0, y1, y2, y3, y4, y5] 45 (0, 0)) ∧
    Kept wx ((((((wx.setCell ⟨b4, 0, none⟩ y0).setCell ⟨b4, 1, none⟩ y1).setCell ⟨b4, 2, none⟩ y2).setCell ⟨b4, 3, none⟩ y3).setCell ⟨b4, 4, none⟩ y4).setCell ⟨b4, 5, none⟩ y5) (fun k => k = b4) ∧
    Below w0.heap.size w0 ((((((wx.setCell ⟨b4, 0, none⟩ y0).setCell ⟨b4, 1, none⟩ y1).setCell ⟨b4, 2, none⟩ y2).setCell ⟨b4, 3, none⟩ y3).setCell ⟨b4, 4, none⟩ y4).setCell ⟨b4, 5, none⟩ y5) := by
  have hb : w0.heap.size ≤ b4 := by have := h.rs.old; have := h.o1; have := h.o3; omega
  refine ⟨six_set (six_set (six_set (six_set (six_set (six_set h.c4 0 y0) 1 y1) 2 y2) 3 y3) 4 y4) 5 y5, ?_, ?_⟩
  · exact ((((((Kept.refl wx (fun k => k = b4)).setCell (p := ⟨b4, 0, none⟩) (.inl rfl) y0).setCell (p := ⟨b4, 1, none⟩) (.inl rfl) y1).setCell (p := ⟨b4, 2, none⟩) (.inl rfl) y2).setCell (p := ⟨b4, 3, none⟩) (.inl rfl) y3).setCell (p := ⟨b4, 4, none⟩) (.inl rfl) y4).setCell (p := ⟨b4, 5, none⟩) (.inl rfl) y5
  · exact (((((h.be.setCell (p := ⟨b4, 0, none⟩) hb y0).setCell (p := ⟨b4, 1, none⟩) hb y1).setCell (p := ⟨b4, 2, none⟩) hb y2).setCell (p := ⟨b4, 3, none⟩) hb y3).setCell (p := ⟨b4, 4, none⟩) hb y4).setCell (p := ⟨b4, 5, none⟩) hb y5
theorem fin_row {α : Type} {d : Kd α} {e base base2 b : Nat} {ok : Nat → Prop} {w1 : World} {v : Value} {xs : List α} (h : d.R e wx base ok v xs) (hk : Kept wx w1 (fun k => k = b)) (hb : b < base) (hw : base2 ≤ base) : d.R e w1 base2 (fun _ => True) v xs :=
  Kd.R_lower (R_stay (Kd.R_mono h (fun _ _ => trivial)) hk (fun k hk => by omega)) hw
/-- The results at the function's end. -/
theorem tm_out {w : World} {b : Nat} {y0 y1 y2 y3 y4 y5 x0 x1 x2 x3 : Value} {ts : List Value} (h : w.heap[b]? = some (.cells #[y0, y1, y2, y3, y4, y5] 45 (0, 0))) (h1 : y0.oneCell' = true ∧ y1.oneCell' = true ∧ y2.oneCell' = true ∧ y3.oneCell' = true ∧ y4.oneCell' = true ∧ y5.oneCell' = true) :
    (results Tryd.f37 ⟨x0 :: x1 :: x2 :: x3 :: .pointer (some ⟨b, 0, none⟩) :: ts⟩).run Tryd.prog w = .ok (.agg #[y0, y1, y2, y3, y4, y5]) w := by
  obtain ⟨c0, c1, c2, c3, c4, c5, _⟩ := cells6 h
  simp [results, Tryd.results37, go_sem, c0, c1, c2, c3, c4, c5]
end
end Go.Proofs.YtahdjajdaggmjaaDoor.XPo
