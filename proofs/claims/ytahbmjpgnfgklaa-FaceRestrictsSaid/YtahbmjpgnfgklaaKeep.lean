/-
Walk: face.keep, for any function of a clause that captures one variable or none.
-/
import Derived.Test.YtahbmjpgnfgklaaCont
import Derived.Test.YtahbmjpgnfgklaaInv
namespace Go.Proofs.Ytahbmjpgnfgklaa
open Go.RowKit H

def keepC (p : C → C × Bool) (l : List C) : List C := (l.filter fun c => (p c).2).map fun c => (p c).1
theorem keepC_length (p : C → C × Bool) (l : List C) : (keepC p l).length ≤ l.length := by
  unfold keepC
  rw [List.length_map]
  exact List.length_filter_le _ _
theorem keepC_skip {p : C → C × Bool} {l : List C} {j : Nat} (hj : j < l.length) (h : (p l[j]).2 = false) : keepC p (l.take (j + 1)) = keepC p (l.take j) := by
  unfold keepC
  rw [List.take_succ_eq_append_getElem hj, List.filter_append]
  simp [h]
theorem keepC_put {p : C → C × Bool} {l : List C} {j : Nat} (hj : j < l.length) (h : (p l[j]).2 = true) : keepC p (l.take (j + 1)) = keepC p (l.take j) ++ [(p l[j]).1] := by
  unfold keepC
  rw [List.take_succ_eq_append_getElem hj, List.filter_append, List.map_append]
  simp [h]

theorem keep_next {w0 w2 w4 : World} {base : Nat} {L : List C} {c : C} {vo v' : Value} {o1 tmp : Obj} (ho : Own w2 base vo L) (hb : Below base w0 w2) (hsz : base ≤ w2.heap.size) (hlen : L.length ≤ 1000000)
    (hown : w4.ownsRow base 24 2 v' (L.length + 1) (flat L ++ [.int .u32 (un c.1), .int .u32 (un c.2)])) (hg : ((w2.alloc o1).alloc tmp).grownBy w4 vo.ownBlock) : Own w4 base v' (L ++ [c]) ∧ Below base w0 w4 := by
  have b1 : Below base w2 ((w2.alloc o1).alloc tmp) := ((Below.refl _ _).alloc hsz _).alloc (by simp; omega) _
  have b2 : Below base ((w2.alloc o1).alloc tmp) w4 := ⟨hg.os, hg.tape, hg.output, hg.size, fun k hk => hg.block k (by simp; omega) (ho.ne_block hk)⟩
  exact ⟨⟨by rw [List.length_append, List.length_singleton, flat_snoc]; exact hown, by rw [List.length_append, List.length_singleton]; omega⟩, (hb.trans b1).trans b2⟩
theorem cells2_at (w : World) (o : Obj) (x y : Value) (t : TypeId) : ∀ (j : Nat) (u : Value), ([x, y] : List Value)[j]? = some u → ((w.alloc o).alloc (.cells #[x, y] t)).cell? ((⟨w.heap.size + 1, 0, none⟩ : Addr).add j) = some u := by
  have h := cells2_new (w.alloc o) x y t
  rw [World.size_alloc] at h
  exact h
theorem keep_mid {w0 w w2 : World} {base : Nat} {v : Value} {L : List C} {o : Obj} (ho : Own w base v L) (hb : Below base w0 w) (hsz : base ≤ w.heap.size) (h2 : Below (w.alloc o).heap.size (w.alloc o) w2) : Own w2 base v L ∧ Below base w0 w2 ∧ base ≤ w2.heap.size := by
  have h1 : Below w.heap.size w (w.alloc o) := (Below.refl _ _).alloc (Nat.le_refl _) _
  have h3 : Below w.heap.size w w2 := below_then h1 (by simp) h2
  have := h3.size
  exact ⟨ho.below h3, below_then hb hsz h3, by omega⟩

set_option maxRecDepth 100000 in
set_option maxHeartbeats 4000000 in
theorem keep_bound (F : FuncId) (pt : Value) (p : C → C × Bool) (cap : Nat) (A : Option Addr) (l : List C) (w : World) (hR : Rd w A l) (hlen : l.length ≤ 1000000)
    (eg : ∀ args w, (callFunc F args).run Try.prog w = .ok (.enter F args) w)
    (hp : ∀ (d : C) (w1 : World), Below w.heap.size w w1 → Calls Try.prog F #[.agg #[.int .u32 (un d.1), .int .u32 (un d.2)], pt] w1 fun e w' => e = .returned (.tuple #[.agg #[.int .u32 (un (p d).1.1), .int .u32 (un (p d).1.2)], .bool (p d).2]) ∧ Below w1.heap.size w1 w') :
    Calls Try.prog 56 #[.slice A l.length cap, .func (.func F) #[] #[pt]] w fun e w' => ∃ v, e = .returned v ∧ Own w' w.heap.size v (keepC p l) ∧ Below w.heap.size w w' := by
  go_enter Try.func56, Try.ntmps56
  go_wp2
  go_loopg [5, 12] (l.length + 1) (fun kq v5 v12 w' => ∃ j : Nat, v12 = .int .i64 (j : Int) ∧ j ≤ l.length ∧ kq + j = l.length + 1 ∧ Own w' w.heap.size v5 (keepC p (l.take j)) ∧ Below w.heap.size w w')
  case atStart => exact ⟨0, rfl, Nat.zero_le _, rfl, Own.nil _ _, Below.refl _ _⟩
  case round =>
    obtain ⟨j, rfl, hj, hk, ho, hb⟩ := hrel
    by_cases hlt : j < l.length
    · obtain ⟨b0, off, rfl, h1, h2⟩ := (hR.below hb).at_ hlt
      have hsz := hb.size
      have hkl := Nat.le_trans (keepC_length p (l.take j)) (List.length_take_le j l)
      have hpj := hp l[j] (wr.alloc (.cells #[.int .u32 (un l[j].1), .int .u32 (un l[j].2)] 24)) (hb.alloc hsz _)
      have HO := Lib.hid ho
      have HB := Lib.hid hb
      clear ho hb hp
      cases hok : (p l[j]).2
      · rw [hok] at hpj
        have HK := Lib.hid hok
        clear hok
        go_wp2_with (go_at_fn F; refine hpj.mono ?_; rintro e w2 ⟨rfl, hb2⟩; obtain ⟨ho2, hb3, hs3⟩ := keep_mid HO HB hsz hb2)
        go_roundg (gk - 1)
        case measure => omega
        case rel =>
          refine ⟨j + 1, by simp, by omega, by omega, ?_, ?_⟩
          · rw [keepC_skip hlt HK]
            first | exact ho2 | exact (ho2.below ((Below.refl _ _).alloc (Nat.le_refl _) _))
          · first | exact hb3 | exact hb3.alloc hs3 _
      · rw [hok] at hpj
        have HK := Lib.hid hok
        clear hok
        obtain ⟨iC, hiC, hzC, hsC, hbC⟩ := infoC
        go_wp2_with (first
          | (go_at_fn F; refine hpj.mono ?_; rintro e w2 ⟨rfl, hb2⟩; obtain ⟨ho2, hb3, hs3⟩ := keep_mid HO HB hsz hb2)
          | (at_builtin; refine wpList_append_own _ rfl _ _ 30 rfl w.heap.size 24 iC (.agg #[.int .u32 0, .int .u32 0]) 2 8 Try.underlying30 hiC hzC hsC hbC rfl (by decide) _ _ _ rfl ((ho2.1.alloc _).alloc _) ⟨w2.heap.size + 1, 0, none⟩ 1 1 [.int .u32 (un (p l[j]).1.1), .int .u32 (un (p l[j]).1.2)] rfl rfl (cells2_at _ _ _ _ _) (by simp [Value.oneCell']) (by unfold maxLen; omega) (by omega) (by simp; omega) ?_; intro v' w4 hown hgrow _; obtain ⟨ho4, hb4⟩ := keep_next ho2 hb3 hs3 (by omega) hown hgrow))
        go_roundg (gk - 1)
        case measure => omega
        case rel => exact ⟨j + 1, by simp, by omega, by omega, by rw [keepC_put hlt HK]; exact ho4, hb4⟩
    · have e : l.take j = l := List.take_of_length_le (by omega)
      rw [e] at ho
      clear hp
      go_wp2
      go_ret
      exact ⟨_, rfl, ho, hb⟩
set_option maxRecDepth 100000 in
set_option maxHeartbeats 4000000 in
theorem keep_plain (F : FuncId) (p : C → C × Bool) (cap : Nat) (A : Option Addr) (l : List C) (w : World) (hR : Rd w A l) (hlen : l.length ≤ 1000000)
    (eg : ∀ args w, (callFunc F args).run Try.prog w = .ok (.enter F args) w)
    (hp : ∀ (d : C) (w1 : World), Below w.heap.size w w1 → Calls Try.prog F #[.agg #[.int .u32 (un d.1), .int .u32 (un d.2)]] w1 fun e w' => e = .returned (.tuple #[.agg #[.int .u32 (un (p d).1.1), .int .u32 (un (p d).1.2)], .bool (p d).2]) ∧ Below w1.heap.size w1 w') :
    Calls Try.prog 56 #[.slice A l.length cap, .func (.func F) #[] #[]] w fun e w' => ∃ v, e = .returned v ∧ Own w' w.heap.size v (keepC p l) ∧ Below w.heap.size w w' := by
  go_enter Try.func56, Try.ntmps56
  go_wp2
  go_loopg [5, 12] (l.length + 1) (fun kq v5 v12 w' => ∃ j : Nat, v12 = .int .i64 (j : Int) ∧ j ≤ l.length ∧ kq + j = l.length + 1 ∧ Own w' w.heap.size v5 (keepC p (l.take j)) ∧ Below w.heap.size w w')
  case atStart => exact ⟨0, rfl, Nat.zero_le _, rfl, Own.nil _ _, Below.refl _ _⟩
  case round =>
    obtain ⟨j, rfl, hj, hk, ho, hb⟩ := hrel
    by_cases hlt : j < l.length
    · obtain ⟨b0, off, rfl, h1, h2⟩ := (hR.below hb).at_ hlt
      have hsz := hb.size
      have hkl := Nat.le_trans (keepC_length p (l.take j)) (List.length_take_le j l)
      have hpj := hp l[j] (wr.alloc (.cells #[.int .u32 (un l[j].1), .int .u32 (un l[j].2)] 24)) (hb.alloc hsz _)
      have HO := Lib.hid ho
      have HB := Lib.hid hb
      clear ho hb hp
      cases hok : (p l[j]).2
      · rw [hok] at hpj
        have HK := Lib.hid hok
        clear hok
        go_wp2_with (go_at_fn F; refine hpj.mono ?_; rintro e w2 ⟨rfl, hb2⟩; obtain ⟨ho2, hb3, hs3⟩ := keep_mid HO HB hsz hb2)
        go_roundg (gk - 1)
        case measure => omega
        case rel =>
          refine ⟨j + 1, by simp, by omega, by omega, ?_, ?_⟩
          · rw [keepC_skip hlt HK]
            first | exact ho2 | exact (ho2.below ((Below.refl _ _).alloc (Nat.le_refl _) _))
          · first | exact hb3 | exact hb3.alloc hs3 _
      · rw [hok] at hpj
        have HK := Lib.hid hok
        clear hok
        obtain ⟨iC, hiC, hzC, hsC, hbC⟩ := infoC
        go_wp2_with (first
          | (go_at_fn F; refine hpj.mono ?_; rintro e w2 ⟨rfl, hb2⟩; obtain ⟨ho2, hb3, hs3⟩ := keep_mid HO HB hsz hb2)
          | (at_builtin; refine wpList_append_own _ rfl _ _ 30 rfl w.heap.size 24 iC (.agg #[.int .u32 0, .int .u32 0]) 2 8 Try.underlying30 hiC hzC hsC hbC rfl (by decide) _ _ _ rfl ((ho2.1.alloc _).alloc _) ⟨w2.heap.size + 1, 0, none⟩ 1 1 [.int .u32 (un (p l[j]).1.1), .int .u32 (un (p l[j]).1.2)] rfl rfl (cells2_at _ _ _ _ _) (by simp [Value.oneCell']) (by unfold maxLen; omega) (by omega) (by simp; omega) ?_; intro v' w4 hown hgrow _; obtain ⟨ho4, hb4⟩ := keep_next ho2 hb3 hs3 (by omega) hown hgrow))
        go_roundg (gk - 1)
        case measure => omega
        case rel => exact ⟨j + 1, by simp, by omega, by omega, by rw [keepC_put hlt HK]; exact ho4, hb4⟩
    · have e : l.take j = l := List.take_of_length_le (by omega)
      rw [e] at ho
      clear hp
      go_wp2
      go_ret
      exact ⟨_, rfl, ho, hb⟩
end Go.Proofs.Ytahbmjpgnfgklaa
