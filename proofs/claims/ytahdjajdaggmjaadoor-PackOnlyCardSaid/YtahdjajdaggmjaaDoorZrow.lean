/-
Walks: the writer's rows.
-/
import Derived.Test.YtahdjajdaggmjaaDoorZwr
set_option linter.unusedVariables false
set_option linter.unusedSimpArgs false
namespace Go.Proofs.YtahdjajdaggmjaaDoor.XPo
open Go.RowKit Go.Proofs.YtahdjajdaggmjaaDoorW.PrintWords Go.Proofs.YtahdjajdaggmjaaDoorW.PrintLast Go.Proofs.YtahdjajdaggmjaaDoorW.PrintMore

/-- A clause's numbers; a row's. -/
def okC (c : Cl) : Prop := 0 ≤ c.f0 ∧ c.f0 ≤ 4294967295 ∧ 0 ≤ c.f1 ∧ c.f1 ≤ 4294967295
def okF (f : List Cl) : Prop := f.length ≤ 1000000 ∧ ∀ c ∈ f, okC c
def clL (c : Cl) : List Int := numL c.f0.toNat ++ numL c.f1.toNat
def rowL (f : List Cl) : List Int := numL f.length ++ f.flatMap clL
theorem clL_length (c : Cl) (h : okC c) : (clL c).length ≤ 10 := by
  obtain ⟨h0, h1, h2, h3⟩ := h
  have a := numL_length c.f0.toNat (by omega)
  have b := numL_length c.f1.toNat (by omega)
  rw [clL, List.length_append]
  omega
theorem clsL_length : ∀ (f : List Cl), (∀ c ∈ f, okC c) → (f.flatMap clL).length ≤ 10 * f.length
  | [], _ => by simp
  | c :: r, h => by
    rw [List.flatMap_cons, List.length_append, List.length_cons]
    have h1 := clL_length c (h c (by simp))
    have h2 := clsL_length r (fun d hd => h d (by simp [hd]))
    omega
theorem take_succ_flat {α β : Type} (g : α → List β) (f : List α) (j : Nat) (h : j < f.length) : (f.take (j + 1)).flatMap g = (f.take j).flatMap g ++ g f[j] := by
  rw [List.take_succ_eq_append_getElem h, List.flatMap_append]
  simp
set_option maxHeartbeats 1000000 in
set_option maxRecDepth 100000 in
theorem writer_row (w0 : World) (p : Nat) (A : Option Addr) (cap : Nat) (f : List Cl) (xs : List Int) (w : World) (hC : Kd.C k91 w0 A f.length f) (hf : okF f) (hb : Below w0.heap.size w0 w) (hs : WSt w0.heap.size w p xs) (hl : xs.length ≤ 10000000) :
    Calls Tryd.prog 28 #[.pointer (some ⟨p, 0, none⟩), .slice A f.length cap] w fun e w' => e = .returned (.tuple #[]) ∧ Below w0.heap.size w0 w' ∧ WSt w0.heap.size w' p (xs ++ rowL f) ∧ KeepW p w w' := by
  have hfl := hf.1
  have HF := Aside0.mk hf
  have HC := Aside0.mk hC
  have hc := writer_number w0 p f.length xs w (by omega) hb hs (by omega)
  have HL0 := numL_length f.length (by omega)
  have HL1 : Aside0 (∀ k, ((f.take k).flatMap clL).length ≤ 10 * f.length) := ⟨fun k => by
    have h1 := clsL_length (f.take k) (fun c h => HF.out.2 c (List.mem_of_mem_take h))
    have h2 := List.length_take_le' k f
    omega⟩
  clear hC hb hs hf
  go_enter Tryd.func28, Tryd.ntmps28
  go_wp2_with (go_at_call 16; refine hc.mono ?_; rintro e w1 ⟨rfl, hb1, hs1, hk1⟩; have HB := Aside0.mk hb1; have HS := Aside0.mk hs1; have HKW := Aside0.mk hk1; clear hb1 hs1 hc hk1)
  go_loopg [13] (f.length + 1) (fun kq v13 w' => ∃ j : Nat, v13 = .int .i64 (j : Int) ∧ j ≤ f.length ∧ kq + j = f.length + 1 ∧ Aside0 (Below w0.heap.size w0 w') ∧ Aside0 (WSt w0.heap.size w' p (xs ++ numL f.length ++ (f.take j).flatMap clL)) ∧ Aside0 (KeepW p w w'))
  case atStart => exact ⟨0, rfl, Nat.zero_le _, rfl, HB, ⟨by simpa using HS.out⟩, HKW⟩
  case round =>
    clear HB HS HKW
    obtain ⟨j, rfl, hj, hk, HB, HS, HKW⟩ := hrel
    by_cases hlt : j < f.length
    · have hd : decide ((j : Int) < (f.length : Int)) = true := decide_eq_true (by omega)
      obtain ⟨ad, e, hx0, hx1⟩ := at_cl (Kd.C_below HC.out HB.out) j hlt
      cases e
      obtain ⟨c, hcj⟩ : ∃ c, f[j] = c := ⟨_, rfl⟩
      rw [hcj] at hx0 hx1
      have hok : okC c := by rw [← hcj]; exact HF.out.2 _ (List.getElem_mem _)
      have HOK := Aside0.mk hok
      obtain ⟨k0, k1, k2, k3⟩ := hok
      obtain ⟨n0, e0⟩ : ∃ n : Nat, c.f0 = (n : Int) := ⟨c.f0.toNat, by omega⟩
      obtain ⟨n1, e1⟩ : ∃ n : Nat, c.f1 = (n : Int) := ⟨c.f1.toNat, by omega⟩
      have hstep : Aside0 (xs ++ numL f.length ++ (f.take (j + 1)).flatMap clL = xs ++ numL f.length ++ (f.take j).flatMap clL ++ numL n0 ++ numL n1) := ⟨by
        rw [take_succ_flat _ _ _ hlt, hcj, clL, e0, e1]
        simp [List.append_assoc]⟩
      rw [e0] at hx0 k1
      rw [e1] at hx1 k3
      have hl1 := HL1.out j
      have hn0 := numL_length n0 (by omega)
      have hlen : (xs ++ numL f.length ++ (f.take j).flatMap clL).length ≤ 30000000 := by rw [List.length_append, List.length_append]; omega
      have hlen2 : (xs ++ numL f.length ++ (f.take j).flatMap clL ++ numL n0).length ≤ 30000010 := by rw [List.length_append]; omega
      have hnu : numL n0 = numL n0 := rfl
      generalize hY : xs ++ numL f.length ++ (f.take j).flatMap clL = ys at hstep hlen hlen2 HS
      clear hnu hY e0 e1 hcj k0 k2 hl1 HOK
      have hsz := HS.out.lt
      have HWA : Aside0 (Below w0.heap.size w0 (wr.alloc (.cells #[.int .u32 (n0 : Int), .int .u32 (n1 : Int)] 91))) := ⟨HB.out.alloc HB.out.size _⟩
      have HSA : Aside0 (WSt w0.heap.size (wr.alloc (.cells #[.int .u32 (n0 : Int), .int .u32 (n1 : Int)] 91)) p ys) := ⟨HS.out.below (below_alloc (Below.refl _ _) _)⟩
      have hca := writer_number w0 p n0 ys _ (by omega) HWA.out HSA.out (by omega)
      have HNB := Aside0.mk (blk_new wr (.cells #[.int .u32 (n0 : Int), .int .u32 (n1 : Int)] 91))
      have HNE := Aside0.mk (HSA.out.ne HNB.out (by decide))
      have HKA : Aside0 (KeepW p w (wr.alloc (.cells #[.int .u32 (n0 : Int), .int .u32 (n1 : Int)] 91))) := ⟨HKW.out.below (below_alloc (Below.refl _ _) _)⟩
      clear HSA HS HB HWA HKW
      go_wp2_with (first
        | (go_at_call 16; refine hca.mono ?_; rintro e w1 ⟨rfl, hb1, hs1, hk1⟩; have HKB := Aside0.mk (HKA.out.trans hk1); have HN1 := hk1.blk HNB.out HNE.out (by decide); have hcz := (blk_cell HN1 1).trans (rfl : _ = some (Value.int .u32 (n1 : Int))); have hcb := writer_number w0 p n1 _ _ (by omega) hb1 hs1 (by omega); clear hca hb1 hs1 hk1 HN1)
        | (go_at_call 16; refine hcb.mono ?_; rintro e w2 ⟨rfl, hb1, hs1, hk1⟩; have HKC := Aside0.mk (HKB.out.trans hk1); have HB := Aside0.mk hb1; have HS := Aside0.mk hs1; clear hcb hb1 hs1 hk1))
      go_roundg (gk - 1)
      case measure => omega
      case rel => exact ⟨j + 1, rfl, by omega, by omega, HB, ⟨by rw [hstep.out]; exact HS.out⟩, HKC⟩
    · have hd : decide ((j : Int) < (f.length : Int)) = false := decide_eq_false (by omega)
      go_wp2
      go_end0
      exact ⟨rfl, HB.out, by have h := HS.out; rw [List.take_of_length_le (by omega)] at h; rw [rowL, ← List.append_assoc]; exact h, HKW.out⟩
end Go.Proofs.YtahdjajdaggmjaaDoor.XPo
