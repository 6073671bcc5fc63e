/-
Walks: slices' functions of a function of a clause; face.Right, face.under, face.keep.
-/
import Derived.WalkMore
import Derived.Deep.LoopGhost
import Derived.Lib.Hide
import Derived.Shelf.Abstract
import Derived.Test.YtfbcgjkagdbckaaGreatDoorLst
/-! Walks: slices.IndexFunc and slices.ContainsFunc of clauses, for any function of one clause whose contract is known: one that captures nothing, one that captures a variable. -/
namespace Go.Proofs.YtfbcgjkagdbckaaGreatDoor
open Go.RowKit H

set_option maxRecDepth 100000 in
set_option maxHeartbeats 1000000 in
theorem any_plain (F : FuncId) (p : C → Bool) (cap : Nat) (A : Option Addr) (l : List C) (w : World) (hR : Rd w A l)
    (eg : ∀ args w, (callFunc F args).run Tryz.prog w = .ok (.enter F args) w)
    (hp : ∀ (d : C) (w1 : World), Below w.heap.size w w1 → Calls Tryz.prog F #[.agg #[.int .u32 (un d.1), .int .u32 (un d.2)]] w1 fun e w' => e = .returned (.bool (p d)) ∧ Below w1.heap.size w1 w') :
    Calls Tryz.prog 66 #[.slice A l.length cap, .func (.func F) #[] #[]] w fun e w' =>
      (∃ i : Int, e = .returned (.int .i64 i) ∧ decide (i ≥ 0) = l.any p) ∧ Below w.heap.size w w' := by
  go_enter Tryz.func66, Tryz.ntmps66
  go_wp2
  go_loopg [8] (l.length + 1) (fun kq v8 w' => ∃ j : Nat, v8 = .int .i64 (j : Int) ∧ j ≤ l.length ∧ kq + j = l.length + 1 ∧ Hid (∀ d ∈ l.take j, p d = false) ∧ Below w.heap.size w w')
  case atStart => exact ⟨0, rfl, Nat.zero_le _, rfl, Lib.hid (by simp), Below.refl _ _⟩
  case round =>
    obtain ⟨j, rfl, hj, hk, hno, hb⟩ := hrel
    have hlen := hR.1
    by_cases hlt : j < l.length
    · obtain ⟨b0, off, rfl, h1, h2⟩ := (hR.below hb).at_ hlt
      have hpj := hp l[j] wr hb
      have hsz := hb.size
      have HB := Lib.hid hb
      cases hpr : p l[j]
      · rw [hpr] at hpj
        have HP := Lib.hid hpr
        have HN := hno
        clear hno hb hpr hp
        go_wp2_with (go_at_fn F; refine hpj.mono ?_; rintro e w2 ⟨rfl, hb2⟩)
        go_roundg (gk - 1)
        case measure => omega
        case rel =>
          refine ⟨j + 1, ?_, by omega, by omega, ?_, below_then HB hsz hb2⟩
          · simp
          · refine Lib.hid fun d hd => ?_
            rw [List.take_succ_eq_append_getElem hlt] at hd
            rcases List.mem_append.1 hd with h3 | h3
            · exact HN d h3
            · rw [List.mem_singleton.1 h3]
              exact HP
      · rw [hpr] at hpj
        clear hno hb hp
        go_wp2_with (go_at_fn F; refine hpj.mono ?_; rintro e w2 ⟨rfl, hb2⟩)
        go_ret
        refine ⟨⟨j, rfl, ?_⟩, below_then HB hsz hb2⟩
        rw [decide_eq_true (by omega), List.any_eq_true.2 ⟨l[j], List.getElem_mem _, hpr⟩]
    · have HB := Lib.hid hb
      have hany : Hid (l.any p = false) := by
        refine Lib.hid ?_
        rw [List.any_eq_false]
        intro d hd
        have e : l.take j = l := List.take_of_length_le (by omega)
        have h3 : p d = false := hno d (by rw [e]; exact hd)
        rw [h3]
        exact Bool.false_ne_true
      clear hb hno hp
      go_wp2
      go_ret
      exact ⟨⟨-1, rfl, by rw [hany]; rfl⟩, HB⟩
set_option maxRecDepth 100000 in
theorem any_plain_c (F : FuncId) (p : C → Bool) (cap : Nat) (A : Option Addr) (l : List C) (w : World) (hR : Rd w A l)
    (eg : ∀ args w, (callFunc F args).run Tryz.prog w = .ok (.enter F args) w)
    (hp : ∀ (d : C) (w1 : World), Below w.heap.size w w1 → Calls Tryz.prog F #[.agg #[.int .u32 (un d.1), .int .u32 (un d.2)]] w1 fun e w' => e = .returned (.bool (p d)) ∧ Below w1.heap.size w1 w') :
    Calls Tryz.prog 44 #[.slice A l.length cap, .func (.func F) #[] #[]] w fun e w' => e = .returned (.bool (l.any p)) ∧ Below w.heap.size w w' := by
  have hi := any_plain F p cap A l w hR eg hp
  clear hp
  go_enter Tryz.func44, Tryz.ntmps44
  go_wp2_with (go_at_call 66; refine hi.mono ?_; rintro e w2 ⟨⟨i, rfl, hd⟩, hb2⟩)
  go_ret
  exact ⟨by first | rfl | (rw [← hd]; rfl), hb2⟩
end Go.Proofs.YtfbcgjkagdbckaaGreatDoor
/-! Walks of face's small functions: face.Right. -/
namespace Go.Proofs.YtfbcgjkagdbckaaGreatDoor
open Go.RowKit H

/-- What these walks ask of the functions that the print takes. -/
structure SmallF : Prop extends Small where
  clash : ∀ (c : C) (w : World), Calls Tryz.prog 20 #[.agg #[.int .u32 (un c.1), .int .u32 (un c.2)]] w fun e w' => e = .returned (.bool (H.clash c)) ∧ Below w.heap.size w w'
  meet : ∀ (a b : C) (w : World), Calls Tryz.prog 21 #[.agg #[.int .u32 (un a.1), .int .u32 (un a.2)], .agg #[.int .u32 (un b.1), .int .u32 (un b.2)]] w fun e w' => e = .returned (.agg #[.int .u32 (un (H.meet a b).1), .int .u32 (un (H.meet a b).2)]) ∧ Below w.heap.size w w'
  fright : ∀ (A : Option Addr) (cap : Nat) (l : List C) (w : World), Rd w A l → l.length ≤ cap → l.length ≤ 1000000 → Calls Tryz.prog 32 #[.slice A l.length cap] w fun e w' => e = .returned (.bool (H.right l)) ∧ Below w.heap.size w w'

/-- A face: right, and no clause of it clashes. -/
def faceR (l : List C) : Bool := H.right l && !l.any H.clash
set_option maxRecDepth 100000 in
theorem face_Right (S : SmallF) (A : Option Addr) (cap : Nat) (l : List C) (w : World) (hR : Rd w A l) (hcp : l.length ≤ cap) (hl : l.length ≤ 1000000) :
    Calls Tryz.prog 15 #[.slice A l.length cap] w fun e w' => e = .returned (.bool (faceR l)) ∧ Below w.heap.size w w' := by
  have h1 := S.fright A cap l w hR hcp hl
  have eg : ∀ args w, (callFunc 20 args).run Tryz.prog w = .ok (.enter 20 args) w := enters_of Tryz.func20 (by kernel_rfl) rfl
  have h2 : ∀ w1, Below w.heap.size w w1 → Calls Tryz.prog 44 #[.slice A l.length cap, .func (.func 20) #[] #[]] w1 fun e w' => e = .returned (.bool (l.any H.clash)) ∧ Below w1.heap.size w1 w' :=
    fun w1 hb => any_plain_c 20 H.clash cap A l w1 (hR.below hb) eg fun d w2 _ => S.clash d w2
  clear eg
  unfold faceR
  cases h : H.right l
  · rw [h] at h1
    clear h2
    go_enter Tryz.func15, Tryz.ntmps15
    go_wp2_with (go_at_call 32; refine h1.mono ?_; rintro e w2 ⟨rfl, hb2⟩)
    go_ret
    exact ⟨rfl, hb2⟩
  · rw [h] at h1
    go_enter Tryz.func15, Tryz.ntmps15
    go_wp2_with (first | (go_at_call 32; refine h1.mono ?_; rintro e w2 ⟨rfl, hb2⟩) | (go_at_call 44; refine (h2 _ hb2).mono ?_; rintro e w3 ⟨rfl, hb3⟩))
    go_ret
    exact ⟨rfl, below_then hb2 hb2.size hb3⟩

end Go.Proofs.YtfbcgjkagdbckaaGreatDoor
/-! Walk: face.keep, for any function of a clause that captures one variable or none. -/
namespace Go.Proofs.YtfbcgjkagdbckaaGreatDoor
open Go.RowKit H

def keepC (p : C → C × Bool) (l : List C) : List C := (l.filter fun c => (p c).2).map fun c => (p c).1
theorem keepC_length (p : C → C × Bool) (l : List C) : (keepC p l).length ≤ l.length := by
  unfold keepC
  rw [List.length_map]
  exact List.length_filter_le _ _
theorem keepC_skip {p : C → C × Bool} {l : List C} {j : Nat} (hj : j < l.length) (h : (p l[j]).2 = false) : keepC p (l.take (j + 1)) = keepC p (l.take j) := by
  unfold keepC
  rw [List.take_succ_eq_append_getElem hj, List.filter_append]
  simp [h]
theorem keepC_put {p : C → C × Bool} {l : List C} {j : Nat} (hj : j < l.length) (h : (p l[j]).2 = true) : keepC p (l.take (j + 1)) = keepC p (l.take j) ++ [(p l[j]).1] := by
  unfold keepC
  rw [List.take_succ_eq_append_getElem hj, List.filter_append, List.map_append]
  simp [h]

theorem keep_next {w0 w2 w4 : World} {base : Nat} {L : List C} {c : C} {vo v' : Value} {o1 tmp : Obj} (ho : Own w2 base vo L) (hb : Below base w0 w2) (hsz : base ≤ w2.heap.size) (hlen : L.length ≤ 1000000)
    (hown : w4.ownsRow base 25 2 v' (L.length + 1) (flat L ++ [.int .u32 (un c.1), .int .u32 (un c.2)])) (hg : ((w2.alloc o1).alloc tmp).grownBy w4 vo.ownBlock) : Own w4 base v' (L ++ [c]) ∧ Below base w0 w4 := by
  have b1 : Below base w2 ((w2.alloc o1).alloc tmp) := ((Below.refl _ _).alloc hsz _).alloc (by simp; omega) _
  have b2 : Below base ((w2.alloc o1).alloc tmp) w4 := ⟨hg.os, hg.tape, hg.output, hg.size, fun k hk => hg.block k (by simp; omega) (ho.ne_block hk)⟩
  exact ⟨⟨by rw [List.length_append, List.length_singleton, flat_snoc]; exact hown, by rw [List.length_append, List.length_singleton]; omega⟩, (hb.trans b1).trans b2⟩
theorem cells2_at (w : World) (o : Obj) (x y : Value) (t : TypeId) : ∀ (j : Nat) (u : Value), ([x, y] : List Value)[j]? = some u → ((w.alloc o).alloc (.cells #[x, y] t)).cell? ((⟨w.heap.size + 1, 0, none⟩ : Addr).add j) = some u := by
  have h := cells2_new (w.alloc o) x y t
  rw [World.size_alloc] at h
  exact h
theorem keep_mid {w0 w w2 : World} {base : Nat} {v : Value} {L : List C} {o : Obj} (ho : Own w base v L) (hb : Below base w0 w) (hsz : base ≤ w.heap.size) (h2 : Below (w.alloc o).heap.size (w.alloc o) w2) : Own w2 base v L ∧ Below base w0 w2 ∧ base ≤ w2.heap.size := by
  have h1 : Below w.heap.size w (w.alloc o) := (Below.refl _ _).alloc (Nat.le_refl _) _
  have h3 : Below w.heap.size w w2 := below_then h1 (by simp) h2
  have := h3.size
  exact ⟨ho.below h3, below_then hb hsz h3, by omega⟩

set_option maxRecDepth 100000 in
set_option maxHeartbeats 4000000 in
theorem keep_bound (F : FuncId) (pt : Value) (p : C → C × Bool) (cap : Nat) (A : Option Addr) (l : List C) (w : World) (hR : Rd w A l) (hlen : l.length ≤ 1000000)
    (eg : ∀ args w, (callFunc F args).run Tryz.prog w = .ok (.enter F args) w)
    (hp : ∀ (d : C) (w1 : World), Below w.heap.size w w1 → Calls Tryz.prog F #[.agg #[.int .u32 (un d.1), .int .u32 (un d.2)], pt] w1 fun e w' => e = .returned (.tuple #[.agg #[.int .u32 (un (p d).1.1), .int .u32 (un (p d).1.2)], .bool (p d).2]) ∧ Below w1.heap.size w1 w') :
    Calls Tryz.prog 18 #[.slice A l.length cap, .func (.func F) #[] #[pt]] w fun e w' => ∃ v, e = .returned v ∧ Own w' w.heap.size v (keepC p l) ∧ Below w.heap.size w w' := by
  go_enter Tryz.func18, Tryz.ntmps18
  go_wp2
  go_loopg [5, 12] (l.length + 1) (fun kq v5 v12 w' => ∃ j : Nat, v12 = .int .i64 (j : Int) ∧ j ≤ l.length ∧ kq + j = l.length + 1 ∧ Own w' w.heap.size v5 (keepC p (l.take j)) ∧ Below w.heap.size w w')
  case atStart => exact ⟨0, rfl, Nat.zero_le _, rfl, Own.nil _ _, Below.refl _ _⟩
  case round =>
    obtain ⟨j, rfl, hj, hk, ho, hb⟩ := hrel
    by_cases hlt : j < l.length
    · obtain ⟨b0, off, rfl, h1, h2⟩ := (hR.below hb).at_ hlt
      have hsz := hb.size
      have hkl := Nat.le_trans (keepC_length p (l.take j)) (List.length_take_le j l)
      have hpj := hp l[j] (wr.alloc (.cells #[.int .u32 (un l[j].1), .int .u32 (un l[j].2)] 25)) (hb.alloc hsz _)
      have HO := Lib.hid ho
      have HB := Lib.hid hb
      clear ho hb hp
      cases hok : (p l[j]).2
      · rw [hok] at hpj
        have HK := Lib.hid hok
        clear hok
        go_wp2_with (go_at_fn F; refine hpj.mono ?_; rintro e w2 ⟨rfl, hb2⟩; obtain ⟨ho2, hb3, hs3⟩ := keep_mid HO HB hsz hb2)
        go_roundg (gk - 1)
        case measure => omega
        case rel =>
          refine ⟨j + 1, by simp, by omega, by omega, ?_, ?_⟩
          · rw [keepC_skip hlt HK]
            first | exact ho2 | exact (ho2.below ((Below.refl _ _).alloc (Nat.le_refl _) _))
          · first | exact hb3 | exact hb3.alloc hs3 _
      · rw [hok] at hpj
        have HK := Lib.hid hok
        clear hok
        obtain ⟨iC, hiC, hzC, hsC, hbC⟩ := infoC
        go_wp2_with (first
          | (go_at_fn F; refine hpj.mono ?_; rintro e w2 ⟨rfl, hb2⟩; obtain ⟨ho2, hb3, hs3⟩ := keep_mid HO HB hsz hb2)
          | (at_builtin; refine wpList_append_own _ rfl _ _ 22 rfl w.heap.size 25 iC (.agg #[.int .u32 0, .int .u32 0]) 2 8 Tryz.underlying22 hiC hzC hsC hbC rfl (by decide) _ _ _ rfl ((ho2.1.alloc _).alloc _) ⟨w2.heap.size + 1, 0, none⟩ 1 1 [.int .u32 (un (p l[j]).1.1), .int .u32 (un (p l[j]).1.2)] rfl rfl (cells2_at _ _ _ _ _) (by simp [Value.oneCell']) (by unfold maxLen; omega) (by omega) (by simp; omega) ?_; intro v' w4 hown hgrow _; obtain ⟨ho4, hb4⟩ := keep_next ho2 hb3 hs3 (by omega) hown hgrow))
        go_roundg (gk - 1)
        case measure => omega
        case rel => exact ⟨j + 1, by simp, by omega, by omega, by rw [keepC_put hlt HK]; exact ho4, hb4⟩
    · have e : l.take j = l := List.take_of_length_le (by omega)
      rw [e] at ho
      clear hp
      go_wp2
      go_ret
      exact ⟨_, rfl, ho, hb⟩
set_option maxRecDepth 100000 in
set_option maxHeartbeats 4000000 in
theorem keep_plain (F : FuncId) (p : C → C × Bool) (cap : Nat) (A : Option Addr) (l : List C) (w : World) (hR : Rd w A l) (hlen : l.length ≤ 1000000)
    (eg : ∀ args w, (callFunc F args).run Tryz.prog w = .ok (.enter F args) w)
    (hp : ∀ (d : C) (w1 : World), Below w.heap.size w w1 → Calls Tryz.prog F #[.agg #[.int .u32 (un d.1), .int .u32 (un d.2)]] w1 fun e w' => e = .returned (.tuple #[.agg #[.int .u32 (un (p d).1.1), .int .u32 (un (p d).1.2)], .bool (p d).2]) ∧ Below w1.heap.size w1 w') :
    Calls Tryz.prog 18 #[.slice A l.length cap, .func (.func F) #[] #[]] w fun e w' => ∃ v, e = .returned v ∧ Own w' w.heap.size v (keepC p l) ∧ Below w.heap.size w w' := by
  go_enter Tryz.func18, Tryz.ntmps18
  go_wp2
  go_loopg [5, 12] (l.length + 1) (fun kq v5 v12 w' => ∃ j : Nat, v12 = .int .i64 (j : Int) ∧ j ≤ l.length ∧ kq + j = l.length + 1 ∧ Own w' w.heap.size v5 (keepC p (l.take j)) ∧ Below w.heap.size w w')
  case atStart => exact ⟨0, rfl, Nat.zero_le _, rfl, Own.nil _ _, Below.refl _ _⟩
  case round =>
    obtain ⟨j, rfl, hj, hk, ho, hb⟩ := hrel
    by_cases hlt : j < l.length
    · obtain ⟨b0, off, rfl, h1, h2⟩ := (hR.below hb).at_ hlt
      have hsz := hb.size
      have hkl := Nat.le_trans (keepC_length p (l.take j)) (List.length_take_le j l)
      have hpj := hp l[j] (wr.alloc (.cells #[.int .u32 (un l[j].1), .int .u32 (un l[j].2)] 25)) (hb.alloc hsz _)
      have HO := Lib.hid ho
      have HB := Lib.hid hb
      clear ho hb hp
      cases hok : (p l[j]).2
      · rw [hok] at hpj
        have HK := Lib.hid hok
        clear hok
        go_wp2_with (go_at_fn F; refine hpj.mono ?_; rintro e w2 ⟨rfl, hb2⟩; obtain ⟨ho2, hb3, hs3⟩ := keep_mid HO HB hsz hb2)
        go_roundg (gk - 1)
        case measure => omega
        case rel =>
          refine ⟨j + 1, by simp, by omega, by omega, ?_, ?_⟩
          · rw [keepC_skip hlt HK]
            first | exact ho2 | exact (ho2.below ((Below.refl _ _).alloc (Nat.le_refl _) _))
          · first | exact hb3 | exact hb3.alloc hs3 _
      · rw [hok] at hpj
        have HK := Lib.hid hok
        clear hok
        obtain ⟨iC, hiC, hzC, hsC, hbC⟩ := infoC
        go_wp2_with (first
          | (go_at_fn F; refine hpj.mono ?_; rintro e w2 ⟨rfl, hb2⟩; obtain ⟨ho2, hb3, hs3⟩ := keep_mid HO HB hsz hb2)
          | (at_builtin; refine wpList_append_own _ rfl _ _ 22 rfl w.heap.size 25 iC (.agg #[.int .u32 0, .int .u32 0]) 2 8 Tryz.underlying22 hiC hzC hsC hbC rfl (by decide) _ _ _ rfl ((ho2.1.alloc _).alloc _) ⟨w2.heap.size + 1, 0, none⟩ 1 1 [.int .u32 (un (p l[j]).1.1), .int .u32 (un (p l[j]).1.2)] rfl rfl (cells2_at _ _ _ _ _) (by simp [Value.oneCell']) (by unfold maxLen; omega) (by omega) (by simp; omega) ?_; intro v' w4 hown hgrow _; obtain ⟨ho4, hb4⟩ := keep_next ho2 hb3 hs3 (by omega) hown hgrow))
        go_roundg (gk - 1)
        case measure => omega
        case rel => exact ⟨j + 1, by simp, by omega, by omega, by rw [keepC_put hlt HK]; exact ho4, hb4⟩
    · have e : l.take j = l := List.take_of_length_le (by omega)
      rw [e] at ho
      clear hp
      go_wp2
      go_ret
      exact ⟨_, rfl, ho, hb⟩
end Go.Proofs.YtfbcgjkagdbckaaGreatDoor
