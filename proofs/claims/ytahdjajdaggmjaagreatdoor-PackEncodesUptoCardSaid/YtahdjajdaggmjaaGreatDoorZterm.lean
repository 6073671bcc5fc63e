/-
Walks: the writer's rows.
-/
import Derived.Test.YtahdjajdaggmjaaGreatDoorZwr
import Derived.Test.YtahdjajdaggmjaaGreatDoorUtab
import Derived.Test.YtahdjajdaggmjaaGreatDoorWLast
section
set_option linter.unusedVariables false
set_option linter.unusedSimpArgs false
namespace Go.Proofs.YtahdjajdaggmjaaGreatDoor.XPa
open Go.RowKit Go.Proofs.YtahdjajdaggmjaaGreatDoorW.PrintWords Go.Proofs.YtahdjajdaggmjaaGreatDoorW.PrintLast Go.Proofs.YtahdjajdaggmjaaGreatDoorW.PrintMore
def okC (c : Cl) : Prop := 0 ≤ c.f0 ∧ c.f0 ≤ 4294967295 ∧ 0 ≤ c.f1 ∧ c.f1 ≤ 4294967295
def okF (f : List Cl) : Prop := f.length ≤ 1000000 ∧ ∀ c ∈ f, okC c
def clL (c : Cl) : List Int := numL c.f0.toNat ++ numL c.f1.toNat
def rowL (f : List Cl) : List Int := numL f.length ++ f.flatMap clL
theorem clL_length (c : Cl) (h : okC c) : (clL c).length ≤ 10 := by
 obtain ⟨h0, h1, h2, h3⟩ := h
 have a := numL_length c.f0.toNat (by omega)
 have b := numL_length c.f1.toNat (by omega)
 rw [clL, List.length_append]
 omega
theorem clsL_length : ∀ (f : List Cl), (∀ c ∈ f, okC c) → (f.flatMap clL).length ≤ 10 * f.length
 | [], _ => by simp
 | c :: r, h => by
  rw [List.flatMap_cons, List.length_append, List.length_cons]
  have h1 := clL_length c (h c (by simp))
  have h2 := clsL_length r (fun d hd => h d (by simp [hd]))
  omega
theorem take_succ_flat {α β : Type} (g : α → List β) (f : List α) (j : Nat) (h : j < f.length) : (f.take (j + 1)).flatMap g = (f.take j).flatMap g ++ g f[j] := by
 rw [List.take_succ_eq_append_getElem h, List.flatMap_append]
 simp
set_option maxHeartbeats 1000000 in
set_option maxRecDepth 100000 in
theorem writer_row (w0 : World) (p : Nat) (A : Option Addr) (cap : Nat) (f : List Cl) (xs : List Int) (w : World) (hC : Kd.C k113 w0 A f.length f) (hf : okF f) (hb : Below w0.heap.size w0 w) (hs : WSt w0.heap.size w p xs) (hl : xs.length ≤ 10000000) :
  Calls Tryz.prog 40 #[.pointer (some ⟨p, 0, none⟩), .slice A f.length cap] w fun e w' => e = .returned (.tuple #[]) ∧ Below w0.heap.size w0 w' ∧ WSt w0.heap.size w' p (xs ++ rowL f) ∧ KeepW p w w' := by
 have hfl := hf.1
 have HF := Aside0.mk hf
 have HC := Aside0.mk hC
 have hc := writer_number w0 p f.length xs w (by omega) hb hs (by omega)
 have HL0 := numL_length f.length (by omega)
 have HL1 : Aside0 (∀ k, ((f.take k).flatMap clL).length ≤ 10 * f.length) := ⟨fun k => by
  have h1 := clsL_length (f.take k) (fun c h => HF.out.2 c (List.mem_of_mem_take h))
  have h2 := List.length_take_le' k f
  omega⟩
 clear hC hb hs hf
 go_enter Tryz.func40, Tryz.ntmps40
 go_wp2_with (go_at_call 19; refine hc.mono ?_; rintro e w1 ⟨rfl, hb1, hs1, hk1⟩; have HB := Aside0.mk hb1; have HS := Aside0.mk hs1; have HKW := Aside0.mk hk1; clear hb1 hs1 hc hk1)
 go_loopg [13] (f.length + 1) (fun kq v13 w' => ∃ j : Nat, v13 = .int .i64 (j : Int) ∧ j ≤ f.length ∧ kq + j = f.length + 1 ∧ Aside0 (Below w0.heap.size w0 w') ∧ Aside0 (WSt w0.heap.size w' p (xs ++ numL f.length ++ (f.take j).flatMap clL)) ∧ Aside0 (KeepW p w w'))
 case atStart => exact ⟨0, rfl, Nat.zero_le _, rfl, HB, ⟨by simpa using HS.out⟩, HKW⟩
 case round =>
  clear HB HS HKW
  obtain ⟨j, rfl, hj, hk, HB, HS, HKW⟩ := hrel
  by_cases hlt : j < f.length
  ·have hd : decide ((j : Int) < (f.length : Int)) = true := decide_eq_true (by omega)
   obtain ⟨ad, e, hx0, hx1⟩ := at_cl (Kd.C_below HC.out HB.out) j hlt
   cases e
   obtain ⟨c, hcj⟩ : ∃ c, f[j] = c := ⟨_, rfl⟩
   rw [hcj] at hx0 hx1
   have hok : okC c := by rw [← hcj]; exact HF.out.2 _ (List.getElem_mem _)
   have HOK := Aside0.mk hok
   obtain ⟨k0, k1, k2, k3⟩ := hok
   obtain ⟨n0, e0⟩ : ∃ n : Nat, c.f0 = (n : Int) := ⟨c.f0.toNat, by omega⟩
   obtain ⟨n1, e1⟩ : ∃ n : Nat, c.f1 = (n : Int) := ⟨c.f1.toNat, by omega⟩
   have hstep : Aside0 (xs ++ numL f.length ++ (f.take (j + 1)).flatMap clL = xs ++ numL f.length ++ (f.take j).flatMap clL ++ numL n0 ++ numL n1) := ⟨by
    rw [take_succ_flat _ _ _ hlt, hcj, clL, e0, e1]
    simp [List.append_assoc]⟩
   rw [e0] at hx0 k1
   rw [e1] at hx1 k3
   have hl1 := HL1.out j
   have hn0 := numL_length n0 (by omega)
   have hlen : (xs ++ numL f.length ++ (f.take j).flatMap clL).length ≤ 30000000 := by rw [List.length_append, List.length_append]; omega
   have hlen2 : (xs ++ numL f.length ++ (f.take j).flatMap clL ++ numL n0).length ≤ 30000010 := by rw [List.length_append]; omega
   have hnu : numL n0 = numL n0 := rfl
   generalize hY : xs ++ numL f.length ++ (f.take j).flatMap clL = ys at hstep hlen hlen2 HS
   clear hnu hY e0 e1 hcj k0 k2 hl1 HOK
   have hsz := HS.out.lt
   have HWA : Aside0 (Below w0.heap.size w0 (wr.alloc (.cells #[.int .u32 (n0 : Int), .int .u32 (n1 : Int)] 113))) := ⟨HB.out.alloc HB.out.size _⟩
   have HSA : Aside0 (WSt w0.heap.size (wr.alloc (.cells #[.int .u32 (n0 : Int), .int .u32 (n1 : Int)] 113)) p ys) := ⟨HS.out.below (below_alloc (Below.refl _ _) _)⟩
   have hca := writer_number w0 p n0 ys _ (by omega) HWA.out HSA.out (by omega)
   have HNB := Aside0.mk (blk_new wr (.cells #[.int .u32 (n0 : Int), .int .u32 (n1 : Int)] 113))
   have HNE := Aside0.mk (HSA.out.ne HNB.out (by decide))
   have HKA : Aside0 (KeepW p w (wr.alloc (.cells #[.int .u32 (n0 : Int), .int .u32 (n1 : Int)] 113))) := ⟨HKW.out.below (below_alloc (Below.refl _ _) _)⟩
   clear HSA HS HB HWA HKW
   go_wp2_with (first
    | (go_at_call 19; refine hca.mono ?_; rintro e w1 ⟨rfl, hb1, hs1, hk1⟩; have HKB := Aside0.mk (HKA.out.trans hk1); have HN1 := hk1.blk HNB.out HNE.out (by decide); have hcz := (blk_cell HN1 1).trans (rfl : _ = some (Value.int .u32 (n1 : Int))); have hcb := writer_number w0 p n1 _ _ (by omega) hb1 hs1 (by omega); clear hca hb1 hs1 hk1 HN1)
    | (go_at_call 19; refine hcb.mono ?_; rintro e w2 ⟨rfl, hb1, hs1, hk1⟩; have HKC := Aside0.mk (HKB.out.trans hk1); have HB := Aside0.mk hb1; have HS := Aside0.mk hs1; clear hcb hb1 hs1 hk1))
   go_roundg (gk - 1)
   case measure => omega
   case rel => exact ⟨j + 1, rfl, by omega, by omega, HB, ⟨by rw [hstep.out]; exact HS.out⟩, HKC⟩
  ·have hd : decide ((j : Int) < (f.length : Int)) = false := decide_eq_false (by omega)
   go_wp2
   go_end0
   exact ⟨rfl, HB.out, by have h := HS.out; rw [List.take_of_length_le (by omega)] at h; rw [rowL, ← List.append_assoc]; exact h, HKW.out⟩
def partsI (k : Int) : Int := if k = 16 then 2 else if k = 15 ∨ k = 17 ∨ k = 18 then 1 else 0
def rowI (k : Int) : Prop := k = 13 ∨ k = 21 ∨ k = 26 ∨ k = 14
instance (k : Int) : Decidable (rowI k) := by unfold rowI; infer_instance
def headL (k n : Int) (s : ByteArray) (r : List Cl) : List Int := if k = 1 then numL n.toNat else if k = 2 then textL s else if rowI k then rowL r else []
mutual
def encT : Tm → List Int
 | ⟨k, n, s, r, ks, bs⟩ => (k % 256) :: (headL k n s r ++ (encL ks ++ (if partsI k = 0 then [] else numL bs.length ++ encB bs)))
def encL : List Tm → List Int
 | [] => []
 | t :: r => encT t ++ encL r
def encB : List Br → List Int
 | [] => []
 | b :: r => encR b ++ encB r
def encR : Br → List Int
 | ⟨f, ks⟩ => rowL f ++ encL ks
end
mutual
def okT : Tm → Prop
 | ⟨k, n, s, r, ks, bs⟩ => (k = 1 → 0 ≤ n ∧ n ≤ 4294967295) ∧ (k = 2 → s.size ≤ 2000000) ∧ (rowI k → okF r) ∧ okL ks ∧ (partsI k ≠ 0 → bs.length ≤ 1000000 ∧ okB bs)
def okL : List Tm → Prop
 | [] => True
 | t :: r => okT t ∧ okL r
def okB : List Br → Prop
 | [] => True
 | b :: r => okR b ∧ okB r
def okR : Br → Prop
 | ⟨f, ks⟩ => okF f ∧ okL ks
end
theorem encL_flat : ∀ l, encL l = l.flatMap encT
 | [] => by rw [encL, List.flatMap_nil]
 | t :: r => by rw [encL, List.flatMap_cons, encL_flat r]
theorem encB_flat : ∀ l, encB l = l.flatMap encR
 | [] => by rw [encB, List.flatMap_nil]
 | t :: r => by rw [encB, List.flatMap_cons, encB_flat r]
theorem encR_eq (b : Br) : encR b = rowL b.f0 ++ encL b.f1 := by
 cases b
 rw [encR]
theorem encT_eq (t : Tm) : encT t = (t.f0 % 256) :: (headL t.f0 t.f1 t.f2 t.f3 ++ (encL t.f4 ++ (if partsI t.f0 = 0 then [] else numL t.f5.length ++ encB t.f5))) := by
 cases t
 rw [encT]
theorem okL_mem {k : Tm} : ∀ {l : List Tm}, okL l → k ∈ l → okT k
 | [], _, h => absurd h (by simp)
 | t :: r, ho, h => by
  rw [okL] at ho
  rcases List.mem_cons.1 h with rfl | h
  ·exact ho.1
  ·exact okL_mem ho.2 h
theorem okB_mem {b : Br} : ∀ {l : List Br}, okB l → b ∈ l → okR b
 | [], _, h => absurd h (by simp)
 | t :: r, ho, h => by
  rw [okB] at ho
  rcases List.mem_cons.1 h with rfl | h
  ·exact ho.1
  ·exact okB_mem ho.2 h
theorem okR_eq {b : Br} (h : okR b) : okF b.f0 ∧ okL b.f1 := by
 cases b
 rwa [okR] at h
theorem okT_eq {t : Tm} (h : okT t) : (t.f0 = 1 → 0 ≤ t.f1 ∧ t.f1 ≤ 4294967295) ∧ (t.f0 = 2 → t.f2.size ≤ 2000000) ∧ (rowI t.f0 → okF t.f3) ∧ okL t.f4 ∧ (partsI t.f0 ≠ 0 → t.f5.length ≤ 1000000 ∧ okB t.f5) := by
 cases t
 rwa [okT] at h
theorem flat_take_le {α β : Type} (g : α → List β) (l : List α) (j : Nat) : ((l.take j).flatMap g).length ≤ (l.flatMap g).length := by
 have h : (l.flatMap g).length = ((l.take j).flatMap g).length + ((l.drop j).flatMap g).length := by
  rw [← List.length_append, ← List.flatMap_append, List.take_append_drop]
 omega
theorem World.cell?_alloc_old_ {w : World} {a : Addr} {v : Value} {o : Obj} (h : w.cell? a = some v) : (w.alloc o).cell? a = some v := pw_cell_below (below_alloc (Below.refl _ _) o) h
theorem app_byte_step {ops : Array Oper} {o : Oper} {a : Act} {Q : Exit → Act → World → Prop} {Kc : Act → World → Prop} {w0 W : World} {p : Nat} {A : Option Addr} {n c : Nat} (hw : Region.wanted o (yielded ops a.tmps) = true) (s x : Operand)
  (ho : o.op = .call { callee := .builtin .append, args := #[s, x], argTypes := #[23, 23] }) (ys : List Int) (y : Int)
  (hs : a.eval s = .slice A n c) (hx : a.eval x = .slice (some ⟨W.heap.size, 0, none⟩) 1 1) (HV : W.heap[p]? = some (.cells #[.slice A n c] 56 (0, 0)))
  (HR : Kd.R (Kd.int .u8) 5 W w0.heap.size (fun k => k ≠ p) (.slice A n c) ys) (HB : Below w0.heap.size w0 W) (hl : ys.length ≤ 2000000000)
  (h : ∀ A1 n1 c1 w1, Kd.R (Kd.int .u8) 5 w1 w0.heap.size (fun _ => True) (.slice A1 n1 c1) (ys ++ [y]) → Below w0.heap.size w0 w1 → w1.heap[p]? = some (.cells #[.slice A n c] 56 (0, 0)) → (∀ w2, KeepW p w2 W → KeepW p w2 w1) → Kc (a.put o.dst (.slice A1 n1 c1)) w1) :
  if Region.wanted o (yielded ops a.tmps) = true then Oper.wp Tryz.prog o a (W.alloc (.cells #[.int .u8 y] 5)) Kc Q else Kc (a.put o.dst undef) (W.alloc (.cells #[.int .u8 y] 5)) := by
 refine Kd.R_append_step (Kd.int .u8) (w0 := w0) w0.heap.size hw s x 23 5 (.int .u8 0) 1 ho Tryz.underlying23 uint8_info rfl (by decide) (by omega) (.slice A n c) ys y [.int .u8 y] (fun k => k ≠ p) (fun _ => False) hs hx rfl (fun _ hk => hk.elim) (fun k hk e => by have := blk_lt HV; omega) HR HB HB.size (by omega) ?_
 intro v1 w1 ho1 hb1 hg1 hat1
 obtain ⟨A1, n1, c1, rfl⟩ := slice3 ho1
 exact h A1 n1 c1 w1 (Kd.R_mono ho1 (fun _ _ => trivial)) hb1 (blk_grown HV hg1 (Kd.R_away HR (fun _ hk => hk))) (fun _ hk => hk.grown HR hg1)
set_option maxHeartbeats 4000000 in
set_option maxRecDepth 100000 in
theorem writer_term (HParts : ∀ (a : Int) (w : World), Calls Tryz.prog 41 #[.int .i64 a] w fun e w' => e = .returned (.int .i64 (partsI a)) ∧ Below w.heap.size w w')
  (w0 : World) (p : Nat) : ∀ (m : Nat) (t : Tm) (cs : List Value) (xs : List Int) (w : World), sizeT t ≤ m → k49.K w0 t cs → okT t → Below w0.heap.size w0 w → WSt w0.heap.size w p xs → (xs ++ encT t).length ≤ 10000000 →
  Calls Tryz.prog 21 #[.pointer (some ⟨p, 0, none⟩), .agg cs.toArray] w fun e w' => e = .returned (.tuple #[]) ∧ Below w0.heap.size w0 w' ∧ WSt w0.heap.size w' p (xs ++ encT t) ∧ KeepW p w w' := by
 intro m
 induction m with
 | zero => intro t cs xs w hm; have := sizeT_pos t; omega
 | succ m ih =>
 intro t cs xs w hm hK ho hb hs hl
 obtain ⟨A3, c3, A4, c4, A5, c5, rfl, l3, g3, l4, g4, l5, g5⟩ := k49_open hK
 have HIH := Aside0.mk ih
 have HP := Aside0.mk HParts
 have HM := Aside0.mk hm
 have HOK := Aside0.mk (okT_eq ho)
 have HG3 := Aside0.mk g3
 have HG4 := Aside0.mk g4
 have HG5 := Aside0.mk g5
 have HL := Aside0.mk hl
 have hxl : xs.length ≤ 10000000 := by rw [List.length_append] at hl; omega
 clear ih HParts hm ho g3 g4 g5 hl hK l3 l4 l5
 obtain ⟨hp, A, n, c, hv, hr⟩ := hs.open_
 have HPB := Aside0.mk hp
 have HB0 := Aside0.mk (hb.alloc hb.size (.cells #[.int .i64 t.f0, .int .i64 t.f1, .string t.f2, .slice A3 t.f3.length c3, .slice A4 t.f4.length c4, .slice A5 t.f5.length c5] 49))
 have HT0 := Aside0.mk (blk_new w (.cells #[.int .i64 t.f0, .int .i64 t.f1, .string t.f2, .slice A3 t.f3.length c3, .slice A4 t.f4.length c4, .slice A5 t.f5.length c5] 49))
 have HS0 := Aside0.mk (hs.below (below_alloc (Below.refl _ _) (.cells #[.int .i64 t.f0, .int .i64 t.f1, .string t.f2, .slice A3 t.f3.length c3, .slice A4 t.f4.length c4, .slice A5 t.f5.length c5] 49)))
 have HK0 := Aside0.mk ((KeepW.refl p w).below (below_alloc (Below.refl _ _) (.cells #[.int .i64 t.f0, .int .i64 t.f1, .string t.f2, .slice A3 t.f3.length c3, .slice A4 t.f4.length c4, .slice A5 t.f5.length c5] 49)))
 have HV0 := Aside0.mk (blk_alloc hv (.cells #[.int .i64 t.f0, .int .i64 t.f1, .string t.f2, .slice A3 t.f3.length c3, .slice A4 t.f4.length c4, .slice A5 t.f5.length c5] 49))
 have HR0 := Aside0.mk (Kd.R_alloc hr (.cells #[.int .i64 t.f0, .int .i64 t.f1, .string t.f2, .slice A3 t.f3.length c3, .slice A4 t.f4.length c4, .slice A5 t.f5.length c5] 49))
 have HTP := Aside0.mk (HS0.out.ne HT0.out (by decide))
 clear hb hs hv hr hp
 go_enter Tryz.func21, Tryz.ntmps21
 go_wp2
 generalize hbt : w.heap.size = bt at *
 generalize hW0 : w.alloc (.cells #[.int .i64 t.f0, .int .i64 t.f1, .string t.f2, .slice A3 t.f3.length c3, .slice A4 t.f4.length c4, .slice A5 t.f5.length c5] 49) = W0 at *
 clear hW0 hbt
 have HB1 : Aside0 (Below w0.heap.size w0 W0.drew) := ⟨below_drew HB0.out⟩
 have HT1 : Aside0 (W0.drew.heap[bt]? = some (.cells #[.int .i64 t.f0, .int .i64 t.f1, .string t.f2, .slice A3 t.f3.length c3, .slice A4 t.f4.length c4, .slice A5 t.f5.length c5] 49 (0, 0))) := HT0
 have HV1 : Aside0 (W0.drew.heap[p]? = some (.cells #[.slice A n c] 56 (0, 0))) := HV0
 have HR1 := Aside0.mk (Kd.R_drew HR0.out)
 have HK1 : Aside0 (KeepW p w W0.drew) := ⟨HK0.out.1, HK0.out.2⟩
 refine start_ (n := 13) (S := fun w' => w'.cell? ⟨p, 0, none⟩ = some (.slice A n c) ∧ w'.cell? ⟨bt, 0, none⟩ = some (.int .i64 t.f0)) (ds := [12]) #[false, false, false, false, false, false, false, false, false, false, false, false, false] (by kernel_rfl) rfl rfl ⟨cell_of_one HV1.out, (blk_cell HT1.out 0).trans rfl⟩ (fun hHeld => ?_)
 clear HB0 HT0 HV0 HR0 HK0 HS0
 generalize W0.drew = W1 at *
 refine pu_ 0 10 ?_
 refine pu_ 1 11 ?_
 refine pu_ 2 12 ?_
 refine pu_ 3 13 ?_
 refine ta_ 4 14 ?_
 refine pu_ 5 15 ?_
 refine ta_ 6 16 ?_
 refine pu_ 7 17 ?_
 refine on_ 8 (some 18) fun K hK => ?_
 refine event_step (v := .slice (some ⟨W1.heap.size, 0, none⟩) 1 1) (w1 := W1.alloc (.cells #[.int .u8 (t.f0 % 256)] 5)) (by rfl) (by go_simp; rfl) ?_
 have hHeld_ := hHeld
 refine hK.out _ _ ⟨(World.cell?_alloc_old_ hHeld.1), (World.cell?_alloc_old_ hHeld.2)⟩ (fun hHeld => ?_)
 clear hK K hHeld_
 refine no_ 18 ?_
 refine on_ 9 (some 19) fun K hK => ?_
 refine app_byte_step (w0 := w0) (by rfl) (.tmp 14) (.tmp 18) rfl xs (t.f0 % 256) rfl rfl HV1.out HR1.out HB1.out (by omega) ?_
 intro A2 n2 c2 w2 ho2 hb2 hv2 hk2
 have HV2 := Aside0.mk hv2
 have HO2 := Aside0.mk ho2
 have HB2 := Aside0.mk hb2
 have HK2 := Aside0.mk (hk2 _ HK1.out)
 have HT2 := Aside0.mk ((hk2 _ (KeepW.refl _ _)).blk HT1.out HTP.out (by decide))
 clear ho2 hb2 hv2 hk2
 have hHeld_ := hHeld
 refine hK.out _ _ ⟨cell_of_one HV2.out, (blk_cell HT2.out 0).trans rfl⟩ (fun hHeld => ?_)
 clear hK K hHeld_
 refine no_ 19 ?_
 refine pu_ 10 20 ?_
 refine pu_ 11 21 ?_
 refine last_ (i := 12) (N := none) #[true, true, true, true, true, true, true, true, true, true, true, true, true] rfl rfl (by kernel_rfl) (by decide) (fun K hK => ?_)
 have hc2 := cell_of_one HV2.out
 have hf2 := free_of_one HV2.out
 refine skip_ (w1 := w2.setCell ⟨p, 0, none⟩ (.slice A2 n2 c2)) (by rfl) rfl (by go_simp) ?_
 refine hK.out _ _ ?_
 clear hK K
 refine done_ (by kernel_rfl) ?_
 have HKX := Aside0.mk (HK2.out.set 0 (.slice A2 n2 c2))
 have HBX := Aside0.mk (HB2.out.setCell HPB.out (.slice A2 n2 c2) (p := ⟨p, 0, none⟩))
 have HSX := Aside0.mk (WSt.put HPB.out HV2.out HO2.out)
 have HTX := Aside0.mk (blk_far HT2.out (p := ⟨p, 0, none⟩) HTP.out (.slice A2 n2 c2))
 clear HB1 HV1 HR1 HK1 HT1 HV2 HO2 HB2 HK2 HT2 hHeld
 generalize w2.setCell ⟨p, 0, none⟩ (.slice A2 n2 c2) = w3 at *
 have HLL : Aside0 (xs.length + 1 + (headL t.f0 t.f1 t.f2 t.f3).length + (encL t.f4).length + (if partsI t.f0 = 0 then [] else numL t.f5.length ++ encB t.f5).length ≤ 10000000) := ⟨by have h := HL.out; rw [encT_eq, List.length_append, List.length_cons, List.length_append, List.length_append] at h; omega⟩
 have hz0 := (blk_cell HTX.out 0).trans (rfl : _ = some (Value.int .i64 t.f0))
 have hx1 : (xs ++ [t.f0 % 256]).length ≤ 10000000 := by have h := HLL.out; rw [List.length_append, List.length_singleton]; omega
 go_upto_block 0 with fail
 go_cut [] from 24 to 45 (fun wx => Aside0 (Below w0.heap.size w0 wx) ∧ Aside0 (WSt w0.heap.size wx p (xs ++ [t.f0 % 256] ++ headL t.f0 t.f1 t.f2 t.f3)) ∧ Aside0 (KeepW p w wx) ∧ Aside0 (wx.heap[bt]? = some (.cells #[.int .i64 t.f0, .int .i64 t.f1, .string t.f2, .slice A3 t.f3.length c3, .slice A4 t.f4.length c4, .slice A5 t.f5.length c5] 49 (0, 0))))
 case first =>
  by_cases k1 : t.f0 = 1
  ·have b1 : (t.f0 == 1) = true := by simp [k1]
   obtain ⟨n0, n1⟩ := HOK.out.1 k1
   obtain ⟨N, hN⟩ : ∃ N : Nat, t.f1 = (N : Int) := ⟨t.f1.toNat, by omega⟩
   have HH : Aside0 (headL t.f0 t.f1 t.f2 t.f3 = numL N) := ⟨by rw [headL, if_pos k1, hN]; rfl⟩
   have hz1 := (blk_cell HTX.out 1).trans (rfl : _ = some (Value.int .i64 t.f1))
   rw [hN] at hz1 n1
   have hc := writer_number w0 p N _ w3 (by omega) HBX.out HSX.out (by omega)
   clear hN k1 n0
   go_wp2_with (go_at_call 19; refine hc.mono ?_; rintro e w4 ⟨rfl, hb4, hs4, hk4⟩; have HB4 := Aside0.mk hb4; have HS4 := Aside0.mk hs4; have HK4 := Aside0.mk hk4; clear hc hb4 hs4 hk4)
   go_meet
   exact ⟨HB4, ⟨by rw [HH.out]; exact HS4.out⟩, ⟨HKX.out.trans HK4.out⟩, ⟨HK4.out.blk HTX.out HTP.out (by decide)⟩⟩
  ·have b1 : (t.f0 == 1) = false := by simp [k1]
   by_cases k2 : t.f0 = 2
   ·have b2 : (t.f0 == 2) = true := by simp [k2]
    have n1 := HOK.out.2.1 k2
    have HH : Aside0 (headL t.f0 t.f1 t.f2 t.f3 = textL t.f2) := ⟨by rw [headL, if_neg k1, if_pos k2]⟩
    have hz1 := (blk_cell HTX.out 2).trans (rfl : _ = some (Value.string t.f2))
    have hc := writer_text w0 p t.f2 _ w3 n1 HBX.out HSX.out (by omega)
    clear k1 k2
    go_wp2_with (go_at_call 20; refine hc.mono ?_; rintro e w4 ⟨rfl, hb4, hs4, hk4⟩; have HB4 := Aside0.mk hb4; have HS4 := Aside0.mk hs4; have HK4 := Aside0.mk hk4; clear hc hb4 hs4 hk4)
    go_meet
    exact ⟨HB4, ⟨by rw [HH.out]; exact HS4.out⟩, ⟨HKX.out.trans HK4.out⟩, ⟨HK4.out.blk HTX.out HTP.out (by decide)⟩⟩
   ·have b2 : (t.f0 == 2) = false := by simp [k2]
    by_cases k3 : rowI t.f0
    ·have HF := Aside0.mk (HOK.out.2.2.1 k3)
     have hfl := HF.out.1
     have HH : Aside0 (headL t.f0 t.f1 t.f2 t.f3 = rowL t.f3) := ⟨by rw [headL, if_neg k1, if_neg k2, if_pos k3]⟩
     have hz1 := (blk_cell HTX.out 3).trans (rfl : _ = some (Value.slice A3 t.f3.length c3))
     have hc := writer_row w0 p A3 c3 t.f3 _ w3 HG3.out HF.out HBX.out HSX.out (by omega)
     have h4 : t.f0 = 13 ∨ t.f0 = 21 ∨ t.f0 = 26 ∨ t.f0 = 14 := k3
     have hbs : (t.f0 == 13) = true ∨ (t.f0 == 13) = false ∧ (t.f0 == 21) = true ∨ (t.f0 == 13) = false ∧ (t.f0 == 21) = false ∧ (t.f0 == 26) = true ∨ (t.f0 == 13) = false ∧ (t.f0 == 21) = false ∧ (t.f0 == 26) = false ∧ (t.f0 == 14) = true := by
      rcases h4 with e | e | e | e <;> simp [e]
     clear k1 k2 k3 h4
     rcases hbs with b3 | ⟨b3, b4⟩ | ⟨b3, b4, b5⟩ | ⟨b3, b4, b5, b6⟩
     all_goals
      go_wp2_with (go_at_call 40; refine hc.mono ?_; rintro e w4 ⟨rfl, hb4, hs4, hk4⟩; have HB4 := Aside0.mk hb4; have HS4 := Aside0.mk hs4; have HK4 := Aside0.mk hk4; clear hc hb4 hs4 hk4)
      go_meet
      exact ⟨HB4, ⟨by rw [HH.out]; exact HS4.out⟩, ⟨HKX.out.trans HK4.out⟩, ⟨HK4.out.blk HTX.out HTP.out (by decide)⟩⟩
    ·have HH : Aside0 (headL t.f0 t.f1 t.f2 t.f3 = []) := ⟨by rw [headL, if_neg k1, if_neg k2, if_neg k3]⟩
     have b3 : (t.f0 == 13) = false := by simp only [rowI] at k3; simp; omega
     have b4 : (t.f0 == 21) = false := by simp only [rowI] at k3; simp; omega
     have b5 : (t.f0 == 26) = false := by simp only [rowI] at k3; simp; omega
     have b6 : (t.f0 == 14) = false := by simp only [rowI] at k3; simp; omega
     clear k1 k2 k3
     go_wp2
     go_meet
     exact ⟨HBX, ⟨by rw [HH.out, List.append_nil]; exact HSX.out⟩, HKX, HTX⟩
 case rest =>
  clear HBX HSX HKX HTX hz0
  obtain ⟨HB, HS, HK, HT⟩ := hcut
  have hz4 := (blk_cell HT.out 4).trans (rfl : _ = some (Value.slice A4 t.f4.length c4))
  generalize hhd : headL t.f0 t.f1 t.f2 t.f3 = hd at *
  have HHD := Aside0.mk hhd
  clear hhd
  generalize htl : (if partsI t.f0 = 0 then [] else numL t.f5.length ++ encB t.f5) = tl at *
  have HTL := Aside0.mk htl
  clear htl
  have hll := HLL.out
  have hpre : (xs ++ [t.f0 % 256] ++ hd).length + (encL t.f4).length + tl.length ≤ 10000000 := by rw [List.length_append, List.length_append, List.length_singleton]; omega
  generalize hpr : xs ++ [t.f0 % 256] ++ hd = pre at *
  have HPR := Aside0.mk hpr
  clear hpr hll hxl
  have hk4 : (encL t.f4) = t.f4.flatMap encT := encL_flat _
  have HK4 := Aside0.mk hk4
  have hfl : ∀ j, ((t.f4.take j).flatMap encT).length ≤ (encL t.f4).length := fun j => by rw [hk4]; exact flat_take_le _ _ _
  have HFL := Aside0.mk hfl
  clear hk4 hfl
  have hm4 : t.f4.length ≤ 9223372036854775807 := Kd.C_max HG4.out
  have hm5 : t.f5.length ≤ 9223372036854775807 := Kd.C_max HG5.out
  go_wp2
  go_loopg [49] (t.f4.length + 1) (fun kq v49 wx => ∃ j : Nat, v49 = .int .i64 (j : Int) ∧ j ≤ t.f4.length ∧ kq + j = t.f4.length + 1 ∧ Aside0 (Below w0.heap.size w0 wx) ∧ Aside0 (WSt w0.heap.size wx p (pre ++ (t.f4.take j).flatMap encT)) ∧ Aside0 (KeepW p w wx) ∧ Aside0 (wx.heap[bt]? = some (.cells #[.int .i64 t.f0, .int .i64 t.f1, .string t.f2, .slice A3 t.f3.length c3, .slice A4 t.f4.length c4, .slice A5 t.f5.length c5] 49 (0, 0))))
  case atStart => exact ⟨0, rfl, Nat.zero_le _, rfl, HB, ⟨by simpa using HS.out⟩, HK, HT⟩
  case round =>
   clear HB HS HK HT hz4
   obtain ⟨j, rfl, hj, hk, HB, HS, HK, HT⟩ := hrel
   by_cases hlt : j < t.f4.length
   ·have hd : decide ((j : Int) < (t.f4.length : Int)) = true := decide_eq_true (by omega)
    obtain ⟨ad, A3k, c3k, A4k, c4k, A5k, c5k, e, h0, h1, h2, h3, h4, h5, hKk⟩ := at_tm HG4.out j hlt
    cases e
    have hmem : t.f4[j] ∈ t.f4 := List.getElem_mem _
    obtain ⟨k, hkk⟩ : ∃ k, t.f4[j] = k := ⟨_, rfl⟩
    rw [hkk] at h0 h1 h2 h3 h4 h5 hKk hmem
    replace h0 := pw_cell_below HB.out h0
    replace h1 := pw_cell_below HB.out h1
    replace h2 := pw_cell_below HB.out h2
    replace h3 := pw_cell_below HB.out h3
    replace h4 := pw_cell_below HB.out h4
    replace h5 := pw_cell_below HB.out h5
    have HWA := Aside0.mk (HB.out.alloc HB.out.size (.cells #[.int .i64 k.f0, .int .i64 k.f1, .string k.f2, .slice A3k k.f3.length c3k, .slice A4k k.f4.length c4k, .slice A5k k.f5.length c5k] 49))
    have HSA := Aside0.mk (HS.out.below (below_alloc (Below.refl _ _) (.cells #[.int .i64 k.f0, .int .i64 k.f1, .string k.f2, .slice A3k k.f3.length c3k, .slice A4k k.f4.length c4k, .slice A5k k.f5.length c5k] 49)))
    have HKA := Aside0.mk (HK.out.below (below_alloc (Below.refl _ _) (.cells #[.int .i64 k.f0, .int .i64 k.f1, .string k.f2, .slice A3k k.f3.length c3k, .slice A4k k.f4.length c4k, .slice A5k k.f5.length c5k] 49)))
    have HTA := Aside0.mk (blk_alloc HT.out (.cells #[.int .i64 k.f0, .int .i64 k.f1, .string k.f2, .slice A3k k.f3.length c3k, .slice A4k k.f4.length c4k, .slice A5k k.f5.length c5k] 49))
    have hst : (t.f4.take (j + 1)).flatMap encT = (t.f4.take j).flatMap encT ++ encT k := by rw [take_succ_flat _ _ _ hlt, hkk]
    have hlen := HFL.out (j + 1)
    rw [hst, List.length_append] at hlen
    have hc := HIH.out k _ _ _ (by have := sizeT_kid hmem; have := HM.out; omega) hKk (okL_mem HOK.out.2.2.2.1 hmem) HWA.out HSA.out (by rw [List.length_append, List.length_append]; omega)
    have HST := Aside0.mk hst
    clear hst hlen hKk hkk hmem HWA HSA HB HS HK HT
    go_wp2_with (go_at_call 21; refine hc.mono ?_; rintro e w4 ⟨rfl, hb4, hs4, hk4⟩; have HB4 := Aside0.mk hb4; have HS4 := Aside0.mk hs4; have HK4 := Aside0.mk hk4; clear hc hb4 hs4 hk4)
    go_roundg (gk - 1)
    case measure => omega
    case rel => exact ⟨j + 1, rfl, by omega, by omega, HB4, ⟨by rw [HST.out, ← List.append_assoc]; exact HS4.out⟩, ⟨HKA.out.trans HK4.out⟩, ⟨HK4.out.blk HTA.out HTP.out (by decide)⟩⟩
   ·have hd : decide ((j : Int) < (t.f4.length : Int)) = false := decide_eq_false (by omega)
    have hS := HS.out
    rw [List.take_of_length_le (by omega), ← HK4.out] at hS
    have HSK := Aside0.mk hS
    have hz0 := (blk_cell HT.out 0).trans (rfl : _ = some (Value.int .i64 t.f0))
    clear hS HS
    have hpc := HP.out t.f0 wr
    by_cases kp : partsI t.f0 = 0
    ·rw [kp] at hpc
     have htl : tl = [] := by rw [← HTL.out, if_pos kp]
     clear kp
     go_wp2_with (go_at_call 41; refine hpc.mono ?_; rintro e w4 ⟨rfl, hb4⟩; have HB4 := Aside0.mk hb4; clear hpc hb4)
     first | go_end0 | refine bodyPost_ret (results_none rfl _ _ _) rfl ?_
     exact ⟨rfl, HB.out.trans (HB4.out.mono HB.out.size), by
      rw [encT_eq, HHD.out, HTL.out, htl, List.append_nil]
      have h := HSK.out.below HB4.out
      rw [← HPR.out] at h
      simpa [List.append_assoc] using h, HK.out.below HB4.out⟩
    ·have hkb : (partsI t.f0 == 0) = false := by simp [kp]
     have hkd : decide (partsI t.f0 = 0) = false := by simp [kp]
     have htl : tl = numL t.f5.length ++ encB t.f5 := by rw [← HTL.out, if_neg kp]
     have HP5 := Aside0.mk (HOK.out.2.2.2.2 kp)
     have hf5 := HP5.out.1
     have hpre2 : (pre ++ encL t.f4 ++ numL t.f5.length).length + (encB t.f5).length ≤ 10000000 := by rw [htl, List.length_append] at hpre; rw [List.length_append, List.length_append]; omega
     have hp0 : (pre ++ encL t.f4).length ≤ 10000000 := by rw [List.length_append]; omega
     have HTT := Aside0.mk htl
     clear htl kp
     have HFB : Aside0 (∀ i, ((t.f5.take i).flatMap encR).length ≤ (encB t.f5).length) := ⟨fun i => by rw [encB_flat]; exact flat_take_le _ _ _⟩
     go_wp2_with (first
      | (go_at_call 41; refine hpc.mono ?_; rintro e w4 ⟨rfl, hb4⟩; have HB4 := Aside0.mk (HB.out.trans (hb4.mono HB.out.size)); have HK4x := Aside0.mk (HK.out.below hb4); have HT4 := Aside0.mk (blk_below HT.out hb4); have hz5 := (blk_cell HT4.out 5).trans (rfl : _ = some (Value.slice A5 t.f5.length c5)); have hcn := writer_number w0 p t.f5.length _ w4 (by omega) HB4.out (HSK.out.below hb4) (by omega); clear hpc hb4)
      | (go_at_call 19; refine hcn.mono ?_; rintro e w5 ⟨rfl, hb5, hs5, hk5⟩; have HB5 := Aside0.mk hb5; have HS5 := Aside0.mk hs5; have HK5 := Aside0.mk (HK4x.out.trans hk5); have HT5 := Aside0.mk (hk5.blk HT4.out HTP.out (by decide)); have hz5b := (blk_cell HT5.out 5).trans (rfl : _ = some (Value.slice A5 t.f5.length c5)); clear hcn hb5 hs5 hk5))
     generalize hpr2 : pre ++ encL t.f4 ++ numL t.f5.length = pre2 at *
     have HPR2 := Aside0.mk hpr2
     clear hpr2 hp0 hpre
     obtain ⟨go, rfl⟩ : ∃ go, go = gk := ⟨_, rfl⟩
     obtain ⟨wo, rfl⟩ : ∃ wo : World, wo = wr := ⟨_, rfl⟩
     go_loopg [70] (t.f5.length + 1) (fun kq v70 wx => ∃ i : Nat, v70 = .int .i64 (i : Int) ∧ i ≤ t.f5.length ∧ kq + i = t.f5.length + 1 ∧ Aside0 (Below w0.heap.size w0 wx) ∧ Aside0 (WSt w0.heap.size wx p (pre2 ++ (t.f5.take i).flatMap encR)) ∧ Aside0 (KeepW p w wx))
     case atStart => exact ⟨0, rfl, Nat.zero_le _, rfl, HB5, ⟨by simpa using HS5.out⟩, HK5⟩
     case round =>
      clear HB4 HK4x HT4 hz5 HB5 HS5 HK5 HT5 hz5b
      obtain ⟨i, rfl, hi, hki, HB5, HS5, HK5⟩ := hrel
      by_cases hli : i < t.f5.length
      ·have hdi : decide ((i : Int) < (t.f5.length : Int)) = true := decide_eq_true (by omega)
       obtain ⟨ad, A0b, c0b, A1b, c1b, e, h0, h1, l0, g0, l1, g1⟩ := at_br HG5.out i hli
       cases e
       have hmb : t.f5[i] ∈ t.f5 := List.getElem_mem _
       obtain ⟨b, hbb⟩ : ∃ b, t.f5[i] = b := ⟨_, rfl⟩
       rw [hbb] at h0 h1 l0 g0 l1 g1 hmb
       replace h0 := pw_cell_below HB5.out h0
       replace h1 := pw_cell_below HB5.out h1
       have HOB := Aside0.mk (okR_eq (okB_mem HP5.out.2 hmb))
       have HMB := Aside0.mk hmb
       have HG0 := Aside0.mk g0
       have HG1 := Aside0.mk g1
       have hstb : (t.f5.take (i + 1)).flatMap encR = (t.f5.take i).flatMap encR ++ (rowL b.f0 ++ encL b.f1) := by rw [take_succ_flat _ _ _ hli, hbb, encR_eq]
       have hlen := HFB.out (i + 1)
       rw [hstb, List.length_append, List.length_append] at hlen
       have HSTB := Aside0.mk hstb
       have hmk1 : b.f1.length ≤ 9223372036854775807 := Kd.C_max g1
       have HWA := Aside0.mk (HB5.out.alloc HB5.out.size (.cells #[.slice A0b b.f0.length c0b, .slice A1b b.f1.length c1b] 90))
       have HSA := Aside0.mk (HS5.out.below (below_alloc (Below.refl _ _) (.cells #[.slice A0b b.f0.length c0b, .slice A1b b.f1.length c1b] 90)))
       have HKA := Aside0.mk (HK5.out.below (below_alloc (Below.refl _ _) (.cells #[.slice A0b b.f0.length c0b, .slice A1b b.f1.length c1b] 90)))
       have HTA := Aside0.mk (blk_new wr (.cells #[.slice A0b b.f0.length c0b, .slice A1b b.f1.length c1b] 90))
       have HTNE := Aside0.mk (HSA.out.ne HTA.out (by decide))
       have hx0 : (pre2 ++ (t.f5.take i).flatMap encR).length ≤ 10000000 := by rw [List.length_append]; omega
       have hcr := writer_row w0 p A0b c0b b.f0 _ _ HG0.out HOB.out.1 HWA.out HSA.out hx0
       have hx2 : (pre2 ++ (t.f5.take i).flatMap encR ++ rowL b.f0).length + (encL b.f1).length ≤ 10000000 := by rw [List.length_append, List.length_append]; omega
       have HFK : Aside0 (∀ k, ((b.f1.take k).flatMap encT).length ≤ (encL b.f1).length) := ⟨fun k => by rw [encL_flat]; exact flat_take_le _ _ _⟩
       clear hstb hlen hbb hmb g0 g1 l0 l1 HWA HSA HB5 HS5 HK5 hx0
       go_wp2_with (go_at_call 40; refine hcr.mono ?_; rintro e w6 ⟨rfl, hb6, hs6, hk6⟩; have HB6 := Aside0.mk hb6; have HS6 := Aside0.mk hs6; have HK6 := Aside0.mk (HKA.out.trans hk6); have HT6 := Aside0.mk (hk6.blk HTA.out HTNE.out (by decide)); have hz6 := (blk_cell HT6.out 1).trans (rfl : _ = some (Value.slice A1b b.f1.length c1b)); clear hcr hb6 hs6 hk6)
       generalize hpr3 : pre2 ++ (t.f5.take i).flatMap encR ++ rowL b.f0 = pre3 at *
       have HPR3 := Aside0.mk hpr3
       clear hpr3
       obtain ⟨gp, rfl⟩ : ∃ gp, gp = gk := ⟨_, rfl⟩
       obtain ⟨wp_, rfl⟩ : ∃ wp_ : World, wp_ = wr := ⟨_, rfl⟩
       go_loopg [81] (b.f1.length + 1) (fun kq v81 wx => ∃ j : Nat, v81 = .int .i64 (j : Int) ∧ j ≤ b.f1.length ∧ kq + j = b.f1.length + 1 ∧ Aside0 (Below w0.heap.size w0 wx) ∧ Aside0 (WSt w0.heap.size wx p (pre3 ++ (b.f1.take j).flatMap encT)) ∧ Aside0 (KeepW p w wx))
       case atStart => exact ⟨0, rfl, Nat.zero_le _, rfl, HB6, ⟨by simpa using HS6.out⟩, HK6⟩
       case round =>
        clear HB6 HS6 HK6 HT6 hz6 HTA HKA HTNE h0 h1
        obtain ⟨j, rfl, hj, hkj, HB6, HS6, HK6⟩ := hrel
        by_cases hlt : j < b.f1.length
        ·have hd : decide ((j : Int) < (b.f1.length : Int)) = true := decide_eq_true (by omega)
         obtain ⟨ad, A3k, c3k, A4k, c4k, A5k, c5k, e, h0, h1, h2, h3, h4, h5, hKk⟩ := at_tm HG1.out j hlt
         cases e
         have hmem : b.f1[j] ∈ b.f1 := List.getElem_mem _
         obtain ⟨k, hkk⟩ : ∃ k, b.f1[j] = k := ⟨_, rfl⟩
         rw [hkk] at h0 h1 h2 h3 h4 h5 hKk hmem
         replace h0 := pw_cell_below HB6.out h0
         replace h1 := pw_cell_below HB6.out h1
         replace h2 := pw_cell_below HB6.out h2
         replace h3 := pw_cell_below HB6.out h3
         replace h4 := pw_cell_below HB6.out h4
         replace h5 := pw_cell_below HB6.out h5
         have HWA := Aside0.mk (HB6.out.alloc HB6.out.size (.cells #[.int .i64 k.f0, .int .i64 k.f1, .string k.f2, .slice A3k k.f3.length c3k, .slice A4k k.f4.length c4k, .slice A5k k.f5.length c5k] 49))
         have HSA := Aside0.mk (HS6.out.below (below_alloc (Below.refl _ _) (.cells #[.int .i64 k.f0, .int .i64 k.f1, .string k.f2, .slice A3k k.f3.length c3k, .slice A4k k.f4.length c4k, .slice A5k k.f5.length c5k] 49)))
         have HKA := Aside0.mk (HK6.out.below (below_alloc (Below.refl _ _) (.cells #[.int .i64 k.f0, .int .i64 k.f1, .string k.f2, .slice A3k k.f3.length c3k, .slice A4k k.f4.length c4k, .slice A5k k.f5.length c5k] 49)))
         have hst : (b.f1.take (j + 1)).flatMap encT = (b.f1.take j).flatMap encT ++ encT k := by rw [take_succ_flat _ _ _ hlt, hkk]
         have hlen := HFK.out (j + 1)
         rw [hst, List.length_append] at hlen
         have hc := HIH.out k _ _ _ (by have := sizeT_part HMB.out hmem; have := HM.out; omega) hKk (okL_mem HOB.out.2 hmem) HWA.out HSA.out (by rw [List.length_append, List.length_append]; omega)
         have HST := Aside0.mk hst
         clear hst hlen hKk hkk hmem HWA HSA HB6 HS6 HK6
         go_wp2_with (go_at_call 21; refine hc.mono ?_; rintro e w4 ⟨rfl, hb4, hs4, hk4⟩; have HB4 := Aside0.mk hb4; have HS4 := Aside0.mk hs4; have HK4 := Aside0.mk hk4; clear hc hb4 hs4 hk4)
         go_roundg (gk - 1)
         case measure => omega
         case rel => exact ⟨j + 1, rfl, by omega, by omega, HB4, ⟨by rw [HST.out, ← List.append_assoc]; exact HS4.out⟩, ⟨HKA.out.trans HK4.out⟩⟩
        ·have hd : decide ((j : Int) < (b.f1.length : Int)) = false := decide_eq_false (by omega)
         have hS := HS6.out
         rw [List.take_of_length_le (by omega), ← encL_flat, ← HPR3.out] at hS
         have HSK3 := Aside0.mk hS
         clear hS HS6
         go_wp2
         go_roundg (gp - 1)
         case measure => omega
         case rel => exact ⟨i + 1, rfl, by omega, by omega, HB6, ⟨by rw [HSTB.out]; simpa [List.append_assoc] using HSK3.out⟩, HK6⟩
      ·have hdi : decide ((i : Int) < (t.f5.length : Int)) = false := decide_eq_false (by omega)
       have hS := HS5.out
       rw [List.take_of_length_le (by omega), ← encB_flat, ← HPR2.out, ← HPR.out] at hS
       have HSK2 := Aside0.mk hS
       clear hS HS5
       go_wp2
       first | go_end0 | refine bodyPost_ret (results_none rfl _ _ _) rfl ?_
       exact ⟨rfl, HB5.out, by
        rw [encT_eq, HHD.out, HTL.out, HTT.out]
        simpa [List.append_assoc] using HSK2.out, HK5.out⟩
end Go.Proofs.YtahdjajdaggmjaaGreatDoor.XPa
end
