/-
Walks: the writer.
-/
import Derived.Test.YtahdjajdaggmjaaDoorZdef
import Derived.OneCell
import Derived.Outline
import Derived.Lib.Hide
import Derived.Test.YtahdjajdaggmjaaDoorWAll
set_option linter.unusedVariables false
set_option linter.unusedSimpArgs false
namespace Go.Proofs.YtahdjajdaggmjaaDoor.XPo
open Go.RowKit Go.Proofs.YtahdjajdaggmjaaDoorW.PrintWords Go.Proofs.YtahdjajdaggmjaaDoorW.PrintLast Go.Proofs.YtahdjajdaggmjaaDoorW.PrintMore

/-- A number, put. -/
def numL (n : Nat) : List Int := if h : n < 128 then [(n : Int)] else ((n % 128 + 128 : Nat) : Int) :: numL (n / 128)
termination_by n
theorem numL_lt {n : Nat} (h : n < 128) : numL n = [(n : Int)] := by
  rw [numL, dif_pos h]
theorem numL_ge {n : Nat} (h : ¬ n < 128) : numL n = ((n % 128 + 128 : Nat) : Int) :: numL (n / 128) := by
  rw [numL, dif_neg h]
theorem numL_length (n : Nat) (h : n ≤ 4294967295) : (numL n).length ≤ 5 := by
  have key : ∀ (k n : Nat), n < 128 ^ (k + 1) → (numL n).length ≤ k + 1 := by
    intro k
    induction k with
    | zero => intro n h; rw [numL_lt (by omega)]; simp
    | succ k ih =>
      intro n h
      by_cases h1 : n < 128
      · rw [numL_lt h1]; simp
      · rw [numL_ge h1]
        have := ih (n / 128) (by rw [Nat.pow_succ] at h; omega)
        simp; omega
  exact key 4 n (by omega)
/-- The writer at block p holds the bytes xs. -/
def WSt (base : Nat) (w : World) (p : Nat) (xs : List Int) : Prop :=
  base ≤ p ∧ ∃ v, w.heap[p]? = some (.cells #[v] 52 (0, 0)) ∧ Kd.R (Kd.int .u8) 5 w base (fun _ => True) v xs
theorem uint8_info : (Tryd.prog.info? 5).map (fun i => (i.zero, i.size, i.bytes)) = some (some (.int .u8 0), 1, 1) := by kernel_rfl
theorem slice3 {α : Type} {d : Kd α} {e : Nat} {w : World} {base : Nat} {ok : Nat → Prop} {v : Value} {xs : List α} (h : d.R e w base ok v xs) : ∃ A n c, v = .slice A n c := by
  obtain ⟨A, c, rfl⟩ := Kd.R_slice h
  exact ⟨A, _, c, rfl⟩
theorem WSt.open_ {base p : Nat} {w : World} {xs : List Int} (h : WSt base w p xs) : base ≤ p ∧ ∃ A n c, w.heap[p]? = some (.cells #[.slice A n c] 52 (0, 0)) ∧ Kd.R (Kd.int .u8) 5 w base (fun k => k ≠ p) (.slice A n c) xs := by
  obtain ⟨hp, v, hv, hr⟩ := h
  obtain ⟨A, n, c, rfl⟩ := slice3 hr
  exact ⟨hp, A, n, c, hv, Kd.R_mono (Kd.R_types hr hv (by decide)) (fun _ hk => hk.2)⟩
theorem WSt.put {base p : Nat} {w : World} {xs : List Int} {u v : Value} (hp : base ≤ p) (hv : w.heap[p]? = some (.cells #[u] 52 (0, 0))) (hr : Kd.R (Kd.int .u8) 5 w base (fun _ => True) v xs) : WSt base (w.setCell ⟨p, 0, none⟩ v) p xs :=
  ⟨hp, v, one_setCell hv, Kd.R_set hr hv (by decide) 0 v⟩
theorem WSt.below {base p : Nat} {w w1 : World} {xs : List Int} (h : WSt base w p xs) (hb : Below w.heap.size w w1) : WSt base w1 p xs := by
  obtain ⟨hp, v, hv, hr⟩ := h
  exact ⟨hp, v, blk_below hv hb, Kd.R_below hr hb⟩
theorem WSt.lt {base p : Nat} {w : World} {xs : List Int} (h : WSt base w p xs) : p < w.heap.size := by
  obtain ⟨hp, v, hv, hr⟩ := h
  exact blk_lt hv
/-- All but block p and the rows of bytes stays. -/
def KeepW (p : Nat) (w w' : World) : Prop := w.heap.size ≤ w'.heap.size ∧ ∀ k o, w.heap[k]? = some o → k ≠ p → (∀ cs, o ≠ .cells cs 5 (0, 0)) → w'.heap[k]? = some o
theorem KeepW.refl (p : Nat) (w : World) : KeepW p w w := ⟨Nat.le_refl _, fun _ _ h _ _ => h⟩
theorem KeepW.trans {p : Nat} {w w1 w2 : World} (h : KeepW p w w1) (h2 : KeepW p w1 w2) : KeepW p w w2 := ⟨Nat.le_trans h.1 h2.1, fun k o ho hk hn => h2.2 k o (h.2 k o ho hk hn) hk hn⟩
theorem KeepW.below {p : Nat} {w w1 w2 : World} (h : KeepW p w w1) (hb : Below w1.heap.size w1 w2) : KeepW p w w2 := h.trans ⟨hb.size, fun k o ho _ _ => blk_below ho hb⟩
theorem KeepW.set {p : Nat} {w w1 : World} (h : KeepW p w w1) (i : Nat) (u : Value) : KeepW p w (w1.setCell ⟨p, i, none⟩ u) :=
  h.trans ⟨by simp, fun k o ho hk _ => (Below.heap_setCell w1 ⟨p, i, none⟩ u k hk).trans ho⟩
theorem KeepW.grown {p base : Nat} {ok : Nat → Prop} {w w1 w2 : World} {v : Value} {ys : List Int} (h : KeepW p w w1) (hr : Kd.R (Kd.int .u8) 5 w1 base ok v ys) (hg : w1.grownBy w2 v.ownBlock) : KeepW p w w2 :=
  h.trans ⟨hg.size, fun k o ho _ hn => by
    refine (hg.block k (blk_lt ho) fun e => ?_).trans ho
    obtain ⟨inner, hown⟩ := Kd.R_own hr
    obtain ⟨cs, hcs⟩ := own_typed hown k e.symm
    rw [ho] at hcs
    exact hn cs (Option.some.inj hcs)⟩
theorem KeepW.blk {p g : Nat} {w w1 : World} {cs : Array Value} {t : TypeId} (h : KeepW p w w1) (hg : w.heap[g]? = some (.cells cs t (0, 0))) (hp : g ≠ p) (ht : t ≠ 5) : w1.heap[g]? = some (.cells cs t (0, 0)) :=
  h.2 g _ hg hp (fun cs' e => ht (by injection e))
theorem WSt.ne {base p g : Nat} {w : World} {xs : List Int} {cs : Array Value} {t : TypeId} (h : WSt base w p xs) (hg : w.heap[g]? = some (.cells cs t (0, 0))) (ht : t ≠ 52) : g ≠ p := by
  obtain ⟨hp, v, hv, hr⟩ := h
  exact blk_ne hg hv ht
set_option maxRecDepth 100000 in
theorem or128 : ∀ r : Fin 256, bits .or .u8 ((r.val : Nat) : Int) 128 = ((r.val % 128 + 128 : Nat) : Int) := by decide
theorem or128' (m : Nat) : bits .or .u8 ((m : Int) % 256) 128 = ((m % 128 + 128 : Nat) : Int) := by
  have h := or128 ⟨m % 256, Nat.mod_lt _ (by omega)⟩
  rw [show (m : Int) % 256 = ((m % 256 : Nat) : Int) by omega, h]
  congr 1
  dsimp only
  omega
/-- One more byte. -/
theorem app_byte {ops : Array Oper} {rest : List Oper} {o : Oper} {a : Act} {Q : Exit → Act → World → Prop} {w0 W : World} {p : Nat} {A : Option Addr} {n c : Nat} (hgd : o.guard = none) (s x : Operand)
    (ho : o.op = .call { callee := .builtin .append, args := #[s, x], argTypes := #[25, 25] }) (ys : List Int) (y : Int)
    (hs : a.eval s = .slice A n c) (hx : a.eval x = .slice (some ⟨W.heap.size, 0, none⟩) 1 1) (HV : W.heap[p]? = some (.cells #[.slice A n c] 52 (0, 0)))
    (HR : Kd.R (Kd.int .u8) 5 W w0.heap.size (fun k => k ≠ p) (.slice A n c) ys) (HB : Below w0.heap.size w0 W) (hl : ys.length ≤ 2000000000)
    (h : ∀ A1 n1 c1 w1, Kd.R (Kd.int .u8) 5 w1 w0.heap.size (fun _ => True) (.slice A1 n1 c1) (ys ++ [y]) → Below w0.heap.size w0 w1 → w1.heap[p]? = some (.cells #[.slice A n c] 52 (0, 0)) → (∀ w2, KeepW p w2 W → KeepW p w2 w1) → wpList Tryd.prog ops Q rest (a.put o.dst (.slice A1 n1 c1)) w1) :
    wpList Tryd.prog ops Q (o :: rest) a (W.alloc (.cells #[.int .u8 y] 5)) := by
  refine Kd.R_append (Kd.int .u8) (w0 := w0) w0.heap.size hgd s x 25 5 (.int .u8 0) 1 ho Tryd.underlying25 uint8_info rfl (by decide) (by omega) (.slice A n c) ys y [.int .u8 y] (fun k => k ≠ p) (fun _ => False) hs hx rfl (fun _ hk => hk.elim) (fun k hk e => by have := blk_lt HV; omega) HR HB HB.size (by omega) ?_
  intro v1 w1 ho1 hb1 hg1 hat1
  obtain ⟨A1, n1, c1, rfl⟩ := slice3 ho1
  exact h A1 n1 c1 w1 (Kd.R_mono ho1 (fun _ _ => trivial)) hb1 (blk_grown HV hg1 (Kd.R_away HR (fun _ hk => hk))) (fun _ hk => hk.grown HR hg1)
set_option maxHeartbeats 1000000 in
set_option maxRecDepth 100000 in
theorem writer_number (w0 : World) (p n : Nat) (xs : List Int) (w : World) (hn : n ≤ 4294967295) (hb : Below w0.heap.size w0 w) (hs : WSt w0.heap.size w p xs) (hl : xs.length ≤ 1000000000) :
    Calls Tryd.prog 16 #[.pointer (some ⟨p, 0, none⟩), .int .u64 (n : Int)] w fun e w' => e = .returned (.tuple #[]) ∧ Below w0.heap.size w0 w' ∧ WSt w0.heap.size w' p (xs ++ numL n) ∧ KeepW p w w' := by
  have HL := numL_length n hn
  have HB := Aside0.mk hb
  have HS := Aside0.mk hs
  clear hb hs
  go_enter Tryd.func16, Tryd.ntmps16
  go_wp2
  go_loopg [1] (numL n).length (fun kq v1 w' => ∃ (m : Nat) (ys : List Int), v1 = .int .u64 (m : Int) ∧ m ≤ 4294967295 ∧ Aside0 (ys ++ numL m = xs ++ numL n) ∧ kq = (numL m).length ∧ ys.length + kq ≤ 1000000010 ∧ Aside0 (Below w0.heap.size w0 w') ∧ Aside0 (WSt w0.heap.size w' p ys) ∧ Aside0 (KeepW p w w'))
  case atStart => exact ⟨n, xs, rfl, hn, ⟨rfl⟩, rfl, by omega, HB, HS, ⟨KeepW.refl _ _⟩⟩
  case round =>
    clear HB HS HL
    obtain ⟨m, ys, rfl, hm, hR, hk, hyl, HB, HS, HKW⟩ := hrel
    obtain ⟨hp, A, n0, c0, hv, hr⟩ := HS.out.open_
    have HR := Aside0.mk hr
    have HV := Aside0.mk hv
    have hc := cell_of_one hv
    have hf := free_of_one hv
    have HP := Aside0.mk hp
    have HK := Aside0.mk hk
    clear hr hv HS hp hk
    by_cases h1 : m < 128
    · have hd : decide ((128 : Int) ≤ (m : Int)) = false := decide_eq_false (by omega)
      go_wp2_with (at_builtin; refine app_byte (w0 := w0) rfl (.tmp 24) (.tmp 27) rfl ys (m : Int) rfl rfl HV.out HR.out HB.out (by omega) ?_; intro A1 n1 c1 w1 ho1 hb1 hv1 hkw; have HKW1 := Aside0.mk (hkw _ HKW.out); clear hkw; have HV1 := Aside0.mk hv1; have hc1 := cell_of_one hv1; have hf1 := free_of_one hv1; have HO1 := Aside0.mk ho1; have HB1 := Aside0.mk hb1; clear ho1 hb1 hv1)
      go_end0
      exact ⟨rfl, HB1.out.setCell HP.out _, by rw [← hR.out, numL_lt h1]; exact WSt.put HP.out HV1.out HO1.out, HKW1.out.set _ _⟩
    · have hd : decide ((128 : Int) ≤ (m : Int)) = true := decide_eq_true (by omega)
      have hq : bits .or .u8 ((m : Int) % 256) 128 = ((m % 128 + 128 : Nat) : Int) := or128' m
      go_wp2_with (at_builtin; refine app_byte (w0 := w0) rfl (.tmp 10) (.tmp 14) rfl ys ((m % 128 + 128 : Nat) : Int) rfl rfl HV.out HR.out HB.out (by omega) ?_; intro A1 n1 c1 w1 ho1 hb1 hv1 hkw; have HKW1 := Aside0.mk (hkw _ HKW.out); clear hkw; have HV1 := Aside0.mk hv1; have hc1 := cell_of_one hv1; have hf1 := free_of_one hv1; have HO1 := Aside0.mk ho1; have HB1 := Aside0.mk hb1; clear ho1 hb1 hv1)
      go_roundg (gk - 1)
      case measure => rw [HK.out, numL_ge h1]; simp
      case rel =>
        exact ⟨m / 128, ys ++ [((m % 128 + 128 : Nat) : Int)], rfl, by omega, ⟨by rw [List.append_assoc, ← hR.out, numL_ge h1]; rfl⟩, by rw [HK.out, numL_ge h1]; simp, by rw [List.length_append, List.length_singleton]; rw [HK.out, numL_ge h1, List.length_cons] at hyl; rw [HK.out, numL_ge h1, List.length_cons]; omega, ⟨HB1.out.setCell HP.out _⟩, ⟨WSt.put HP.out HV1.out HO1.out⟩, ⟨HKW1.out.set _ _⟩⟩
/-- The bytes of a text. -/
theorem app_str {ops : Array Oper} {rest : List Oper} {o : Oper} {a : Act} {Q : Exit → Act → World → Prop} {w0 W : World} {p : Nat} {A : Option Addr} {n c : Nat} (hgd : o.guard = none) (s x : Operand)
    (ho : o.op = .call { callee := .builtin .append, args := #[s, x], argTypes := #[25, 9] }) (ys : List Int) (y : ByteArray)
    (hs : a.eval s = .slice A n c) (hx : a.eval x = .string y) (HV : W.heap[p]? = some (.cells #[.slice A n c] 52 (0, 0)))
    (HR : Kd.R (Kd.int .u8) 5 W w0.heap.size (fun k => k ≠ p) (.slice A n c) ys) (HB : Below w0.heap.size w0 W) (hl : ys.length + y.size ≤ 2000000000)
    (h : ∀ A1 n1 c1 w1, Kd.R (Kd.int .u8) 5 w1 w0.heap.size (fun _ => True) (.slice A1 n1 c1) (ys ++ bytesOf y) → Below w0.heap.size w0 w1 → w1.heap[p]? = some (.cells #[.slice A n c] 52 (0, 0)) → (∀ w2, KeepW p w2 W → KeepW p w2 w1) → wpList Tryd.prog ops Q rest (a.put o.dst (.slice A1 n1 c1)) w1) :
    wpList Tryd.prog ops Q (o :: rest) a W := by
  refine print_append_str (w0 := w0) w0.heap.size hgd s x 25 9 5 ho Tryd.underlying25 Tryd.underlying9 uint8_info (.slice A n c) ys y hs hx (Kd.own_of_R HR) HB HB.size (by omega) ?_
  intro v1 w1 ho1 hb1 hg1
  have ho2 : Kd.R (Kd.int .u8) 5 w1 w0.heap.size (fun _ => True) v1 (ys ++ bytesOf y) := Kd.R_of_own ho1 (fun _ _ => trivial)
  obtain ⟨A1, n1, c1, rfl⟩ := slice3 ho2
  exact h A1 n1 c1 w1 ho2 hb1 (blk_grown HV hg1 (Kd.R_away HR (fun _ hk => hk))) (fun _ hk => hk.grown HR hg1)
/-- A text's bytes. -/
def textL (s : ByteArray) : List Int := numL s.size ++ bytesOf s
set_option maxHeartbeats 1000000 in
set_option maxRecDepth 100000 in
theorem writer_text (w0 : World) (p : Nat) (s : ByteArray) (xs : List Int) (w : World) (hn : s.size ≤ 2000000) (hb : Below w0.heap.size w0 w) (hs : WSt w0.heap.size w p xs) (hl : xs.length ≤ 100000000) :
    Calls Tryd.prog 17 #[.pointer (some ⟨p, 0, none⟩), .string s] w fun e w' => e = .returned (.tuple #[]) ∧ Below w0.heap.size w0 w' ∧ WSt w0.heap.size w' p (xs ++ textL s) ∧ KeepW p w w' := by
  have HL := numL_length s.size (by omega)
  have hx : (xs ++ numL s.size).length ≤ 100000005 := by rw [List.length_append]; omega
  have hc := writer_number w0 p s.size xs w (by omega) hb hs (by omega)
  go_enter Tryd.func17, Tryd.ntmps17
  go_wp2_with (first | (go_at_call 16; refine hc.mono ?_; rintro e w1 ⟨rfl, hb1, hs1, hkw1⟩; have HKW := Aside0.mk hkw1; clear hkw1; obtain ⟨hp, A, n0, c0, hv, hr⟩ := hs1.open_; have HR := Aside0.mk hr; have HV := Aside0.mk hv; have HB := Aside0.mk hb1; have HP := Aside0.mk hp; have hc1 := cell_of_one hv; have hf1 := free_of_one hv; clear hr hv hs1 hb1 hp) | (at_builtin; refine app_str (w0 := w0) rfl (.tmp 13) (.tmp 14) rfl _ s rfl rfl HV.out HR.out HB.out (by omega) ?_; intro A1 n1 c1 w2 ho1 hb1 hv1 hkw; have HKW1 := Aside0.mk (hkw _ HKW.out); clear hkw; have HV1 := Aside0.mk hv1; have hc2 := cell_of_one hv1; have hf2 := free_of_one hv1; have HO1 := Aside0.mk ho1; have HB1 := Aside0.mk hb1; clear ho1 hb1 hv1))
  go_end0
  exact ⟨rfl, HB1.out.setCell HP.out _, by rw [textL, ← List.append_assoc]; exact WSt.put HP.out HV1.out HO1.out, HKW1.out.set _ _⟩
end Go.Proofs.YtahdjajdaggmjaaDoor.XPo
