/-
Plain words of names: a letter, a digit, how long the name is with which a text begins.
-/
import Derived.Test.YtahdjajdaggmjaaDoorPast
namespace Go.Proofs.YtahdjajdaggmjaaDoor
open Go.RowKit Go.Proofs.YtahdjajdaggmjaaDoorW.PrintWords

def letB (c : UInt8) : Bool := (97 ≤ c.toNat && c.toNat ≤ 122) || (65 ≤ c.toNat && c.toNat ≤ 90) || c.toNat == 95
def digB (c : UInt8) : Bool := 48 ≤ c.toNat && c.toNat ≤ 57
def alnB (c : UInt8) : Bool := letB c || digB c
/-- How many bytes a name has, with which a text begins. -/
def nameLen : List UInt8 → Nat
  | [] => 0
  | c :: t => if letB c then 1 + (t.takeWhile alnB).length else 0
theorem takeWhile_le (p : UInt8 → Bool) (l : List UInt8) : (l.takeWhile p).length ≤ l.length := by
  induction l with
  | nil => simp
  | cons c t ih =>
    rw [List.takeWhile_cons]
    split
    · simpa using ih
    · simp
theorem nameLen_le (l : List UInt8) : nameLen l ≤ l.length := by
  cases l with
  | nil => simp [nameLen]
  | cons c t =>
    have := takeWhile_le alnB t
    rw [List.length_cons]
    show (if letB c = true then 1 + (t.takeWhile alnB).length else 0) ≤ _
    split <;> omega
theorem bt_drop (s : ByteArray) (i : Nat) (h : i < s.size) : ∃ c : UInt8, bt s (i : Int) = (c.toNat : Int) ∧ s.data.toList.drop i = c :: s.data.toList.drop (i + 1) := by
  refine ⟨s[i], ?_, drop_bt s i h⟩
  have := bt_at s (i : Int) (by rw [Int.toNat_natCast]; exact h)
  rw [← this]
  simp only [Int.toNat_natCast]
theorem hpre_eq (a b : ByteArray) : ((a.extract 0 b.size).toList == b.toList) = hpre a b := by
  unfold hpre
  rw [Lib.toList_data, Lib.toList_data, Lib.extract_data, List.drop_zero, Nat.sub_zero, Lib.size_eq]
  rw [Bool.eq_iff_iff, List.isPrefixOf_iff_prefix, List.prefix_iff_eq_take, beq_iff_eq]
  exact eq_comm
theorem hpre_short (a b : ByteArray) (h : ¬ b.size ≤ a.size) : hpre a b = false := by
  unfold hpre
  rw [Bool.eq_false_iff]
  intro h2
  rw [List.isPrefixOf_iff_prefix] at h2
  have := h2.length_le
  rw [← Lib.size_eq, ← Lib.size_eq] at this
  exact h this
end Go.Proofs.YtahdjajdaggmjaaDoor
