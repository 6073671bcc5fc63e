/-
Walks: face.meet with its inner function, face.Join, face.Meet.
-/
import Derived.Test.YtfbcgjkagdbckaaGreatDoorFg
namespace Go.Proofs.YtfbcgjkagdbckaaGreatDoor
open Go.RowKit H
open Go.Proofs.YtfbcgjkagdbckaaGreatDoorW.PrintWords Go.Proofs.YtfbcgjkagdbckaaGreatDoorW.PrintLast Go.Proofs.YtfbcgjkagdbckaaGreatDoorW.PrintMore

def meetP (a b : C) : C × Bool := (H.meet a b, !H.clash (H.meet a b))
def meetsC (f g : List C) : List C := f.flatMap fun a => keepC (meetP a) g
theorem meetsC_snoc (f : List C) (a : C) (g : List C) : meetsC (f ++ [a]) g = meetsC f g ++ keepC (meetP a) g := by simp [meetsC]
theorem meetsC_length (f g : List C) : (meetsC f g).length ≤ f.length * g.length := by
  induction f with
  | nil => simp [meetsC]
  | cons a f ih =>
    have h := keepC_length (meetP a) g
    have e : meetsC (a :: f) g = keepC (meetP a) g ++ meetsC f g := by simp [meetsC]
    rw [e, List.length_append, List.length_cons, Nat.add_mul]
    omega
set_option maxRecDepth 100000 in
set_option maxHeartbeats 2000000 in
theorem meet_pred (S : SmallG) (c d : C) (bc : Nat) (w : World) (hI : At2 w bc c) :
    Calls Tryz.prog 61 #[.agg #[.int .u32 (un d.1), .int .u32 (un d.2)], .pointer (some ⟨bc, 0, none⟩)] w fun e w' => e = .returned (.tuple #[.agg #[.int .u32 (un (meetP c d).1.1), .int .u32 (un (meetP c d).1.2)], .bool (meetP c d).2]) ∧ Below w.heap.size w w' := by
  have hlti := hI.lt
  have hB1 : Below w.heap.size w (w.alloc (.cells #[.int .u32 (un d.1), .int .u32 (un d.2)] 25)) := (Below.refl _ _).alloc (Nat.le_refl _) _
  have HB0 := hB1.alloc (by simp) (.cells #[.int .u32 0, .int .u32 0] 25)
  have hA1 : At2 (w.alloc (.cells #[.int .u32 (un d.1), .int .u32 (un d.2)] 25)) w.heap.size d := ⟨World.cell?_alloc_new .., World.cell?_alloc_new ..⟩
  have HA0 := hA1.below ((Below.refl _ _).alloc (Nat.le_refl _) (.cells #[.int .u32 0, .int .u32 0] 25))
  have HI0 := hI.below HB0
  have HR0 : ((w.alloc (.cells #[.int .u32 (un d.1), .int .u32 (un d.2)] 25)).alloc (.cells #[.int .u32 0, .int .u32 0] 25)).heap[w.heap.size + 1]? = some (.cells #[.int .u32 0, .int .u32 0] 25 (0, 0)) := by
    have := World.alloc_heap_new (w.alloc (.cells #[.int .u32 (un d.1), .int .u32 (un d.2)] 25)) (.cells #[.int .u32 0, .int .u32 0] 25)
    rw [World.size_alloc] at this
    exact this
  have hge : w.heap.size ≤ w.heap.size + 1 := by omega
  have e0 := HA0.1
  have e1 := HA0.2
  have e2 := HI0.1
  have e3 := HI0.2
  have hm := S.meet c d
  have hk := S.calm (H.meet c d)
  go_enter Tryz.func61, Tryz.ntmps61
  go_wp2_with (first
    | (go_at_call 21; refine (hm _).mono ?_; rintro e W1 ⟨rfl, hb1⟩; have HR1 : W1.heap[w.heap.size + 1]? = some (.cells #[.int .u32 0, .int .u32 0] 25 (0, 0)) := (hb1.block _ (Array.getElem?_eq_some_iff.1 HR0).1).trans HR0; have HB1 := below_then HB0 HB0.size hb1)
    | (go_at_call 43; refine (hk _).mono ?_; rintro e W2 ⟨rfl, hb2⟩; have HR2 : W2.heap[w.heap.size + 1]? = some (.cells #[.int .u32 0, .int .u32 0] 25 (0, 0)) := (hb2.block _ (Array.getElem?_eq_some_iff.1 HR1).1).trans HR1; have HB2 := below_then HB1 HB1.size hb2; have hs0 : W2.cell? ⟨w.heap.size + 1, 0, none⟩ = some (.int .u32 0) := (blk_cell HR2 0).trans rfl; have hf0 := blk_frozen HR2 0; have hs1 : W2.cell? ⟨w.heap.size + 1, 1, none⟩ = some (.int .u32 0) := (blk_cell HR2 1).trans rfl; have hf1 := blk_frozen HR2 1))
  refine bodyPost_ret (results_ct rfl _ _ (w.heap.size + 1) 25 #[.int .u32 (un (H.meet c d).1), .int .u32 (un (H.meet c d).2)] (0, 0) _ rfl (by refine blk_put (cs := #[.int .u32 (un (H.meet c d).1), .int .u32 0]) ?_ 1 _ rfl; refine blk_put (cs := #[.int .u32 0, .int .u32 0]) ?_ 0 _ rfl; exact HR2) Tryz.underlying25 rfl (by kernel_rfl)) rfl ?_
  exact ⟨by first | rfl | (simp <;> rfl), below_set (below_set HB2 hge) hge⟩
set_option maxRecDepth 100000 in
set_option maxHeartbeats 4000000 in
theorem face_meet (S : SmallG) (A0 A1 : Option Addr) (c0 c1 : Nat) (l0 l1 : List C) (w : World) (hR0 : Rd w A0 l0) (hR1 : Rd w A1 l1) (hl : l0.length * l1.length ≤ 1000000) (hl0 : l0.length ≤ 1000000) (hl1 : l1.length ≤ 1000000) :
    Calls Tryz.prog 34 #[.slice A0 l0.length c0, .slice A1 l1.length c1] w fun e w' => ∃ v, e = .returned (.tuple #[v, .int .i64 (least (meetsC l0 l1)).2]) ∧ Own w' w.heap.size v (least (meetsC l0 l1)).1 ∧ Below w.heap.size w w' := by
  have h3 : ∀ A1 c1 w1, Rd w1 A1 (meetsC l0 l1) → Calls Tryz.prog 17 #[.slice A1 (meetsC l0 l1).length c1] w1 fun e w' => ∃ v, e = .returned (.tuple #[v, .int .i64 (least (meetsC l0 l1)).2]) ∧ Own w' w1.heap.size v (least (meetsC l0 l1)).1 ∧ Below w1.heap.size w1 w' :=
    fun A1 c1 w1 h => clause_Least S.toSmall A1 c1 _ w1 h (Nat.le_trans (meetsC_length _ _) hl)
  have eg : ∀ args w, (callFunc 61 args).run Tryz.prog w = .ok (.enter 61 args) w := enters_of Tryz.func61 (by kernel_rfl) rfl
  generalize least (meetsC l0 l1) = R at *
  go_enter Tryz.func34, Tryz.ntmps34
  go_wp2
  go_loopg [6, 11] (l0.length + 1) (fun kq v6 v11 w' => ∃ j : Nat, v11 = .int .i64 (j : Int) ∧ j ≤ l0.length ∧ kq + j = l0.length + 1 ∧ Own w' w.heap.size v6 (meetsC (l0.take j) l1) ∧ Below w.heap.size w w')
  case atStart => exact ⟨0, rfl, Nat.zero_le _, rfl, Own.nil _ _, Below.refl _ _⟩
  case round =>
    obtain ⟨j, rfl, hj, hk, ho, hb⟩ := hrel
    by_cases hlt : j < l0.length
    · obtain ⟨b0, off, rfl, h1, h2⟩ := (hR0.below hb).at_ hlt
      have hsz := hb.size
      have hb1 := hb.alloc hsz (.cells #[.int .u32 (un l0[j].1), .int .u32 (un l0[j].2)] 25)
      have hA1 : At2 (wr.alloc (.cells #[.int .u32 (un l0[j].1), .int .u32 (un l0[j].2)] 25)) wr.heap.size l0[j] := ⟨World.cell?_alloc_new .., World.cell?_alloc_new ..⟩
      have hK := keep_bound 61 (.pointer (some ⟨wr.heap.size, 0, none⟩)) (meetP l0[j]) c1 A1 l1 (wr.alloc (.cells #[.int .u32 (un l0[j].1), .int .u32 (un l0[j].2)] 25)) (hR1.below hb1) hl1 eg fun d w2 hb2 => meet_pred S l0[j] d wr.heap.size w2 (hA1.below hb2)
      have hkl := Nat.le_trans (meetsC_length (l0.take j) l1) (Nat.mul_le_mul_right l1.length (List.length_take_le j l0))
      have hkk := keepC_length (meetP l0[j]) l1
      have hjl : j * l1.length + l1.length ≤ l0.length * l1.length := by
        have := Nat.mul_le_mul_right l1.length (show j + 1 ≤ l0.length from hlt)
        rw [Nat.add_mul, Nat.one_mul] at this
        exact this
      have hfin : Hid (meetsC (l0.take (j + 1)) l1 = meetsC (l0.take j) l1 ++ keepC (meetP l0[j]) l1) := Lib.hid (by rw [List.take_succ_eq_append_getElem hlt, meetsC_snoc])
      have HO := Lib.hid ho
      have HB := Lib.hid hb
      have HB1 := Lib.hid hb1
      clear ho hb hb1 h3 eg hA1
      generalize keepC (meetP l0[j]) l1 = K at *
      generalize meetsC (l0.take j) l1 = M at *
      go_wp2_with (first
        | (go_at_call 18; refine hK.mono ?_; rintro e w2 ⟨v2, rfl, ho2, hb2⟩; obtain ⟨A2, c2, rfl, hR2⟩ := ho2.slice; have hb3 := below_then HB1 HB1.size hb2; have ho3 := (show Own _ _ _ _ from HO).below (((Below.refl _ _).alloc (Nat.le_refl _) _).trans (hb2.mono (by simp))))
        | (at_builtin; refine wpList_append_rd rfl (.tmp 15) (.tmp 18) rfl rfl ho3 rfl hR2 (by omega) hb3.size ?_; intro v4 w4 ho4 hb4 _))
      go_roundg (gk - 1)
      case measure => omega
      case rel => exact ⟨j + 1, by simp, by omega, by omega, by rw [hfin]; exact ho4, hb3.trans hb4⟩
    · have e : l0.take j = l0 := List.take_of_length_le (by omega)
      rw [e] at ho
      obtain ⟨A2, c2, rfl, hR2⟩ := ho.slice
      generalize meetsC l0 l1 = M at *
      clear eg ho
      go_wp2_with (go_at_call 17; refine (h3 _ _ _ hR2).mono ?_; rintro e w3 ⟨v3, rfl, ho3, hb3⟩)
      go_ret2
      exact ⟨_, rfl, ho3.mono hb.size, below_then hb hb.size hb3⟩
def fjoinF (f g : List C) : List C × Int := if faceR f = true ∧ faceR g = true then least (f ++ g) else ([], 2)
def fmeetF (f g : List C) : List C × Int := if faceR f = true ∧ faceR g = true then least (meetsC f g) else ([], 2)
end Go.Proofs.YtfbcgjkagdbckaaGreatDoor
