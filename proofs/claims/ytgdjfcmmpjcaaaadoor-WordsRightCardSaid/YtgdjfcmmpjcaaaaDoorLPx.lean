/-
  This session's plain words about bytes: texts as lists, and where a name begins in one.
-/
import Derived.Lib.IndexMore
import Derived.Lib.IndexAny
import Derived.Test.YtgdjfcmmpjcaaaaDoorQ0
namespace Go.Proofs.YtgdjfcmmpjcaaaaDoorW.Px
open Go

theorem ba_ext {a b : ByteArray} (h : a.data.toList = b.data.toList) : a = b := by
  cases a; cases b; simp at h; subst h; rfl
theorem ba_size (a : ByteArray) : a.size = a.data.toList.length := Array.length_toList.symm
theorem ba_append (a b : ByteArray) : (a ++ b).data.toList = a.data.toList ++ b.data.toList := by simp [ByteArray.data_append]
theorem ba_toList (a : ByteArray) : a.toList = a.data.toList := Lib.toList_data a
theorem ba_extract (a : ByteArray) (i j : Nat) : (a.extract i j).data.toList = (a.data.toList.take j).drop i := by
  simp [ByteArray.data_extract, List.extract_eq_take_drop, List.drop_take]
theorem ba_mk (l : List UInt8) : ((⟨l.toArray⟩ : ByteArray)).data.toList = l := rfl
theorem ba_mk_eq (a : ByteArray) : (⟨a.data.toList.toArray⟩ : ByteArray) = a := ba_ext rfl

/-- A name begins in these bytes. -/
def hasN : List UInt8 → Bool
  | [] => false
  | b :: l => (b == 36 && l.head? == some 123) || hasN l

theorem index_cons (b : UInt8) (l sub : List UInt8) : Lib.index (b :: l) sub = if sub.isPrefixOf (b :: l) then 0 else if Lib.index l sub == -1 then -1 else Lib.index l sub + 1 := by
  rw [Lib.index]
theorem index_ge (l sub : List UInt8) : -1 ≤ Lib.index l sub := by
  rcases Lib.index_spec l sub with ⟨h, _⟩ | ⟨i, h, _⟩ <;> omega
theorem pre_name (b : UInt8) (l : List UInt8) : ([36, 123] : List UInt8).isPrefixOf (b :: l) = (b == 36 && l.head? == some 123) := by
  cases l with
  | nil => simp [List.isPrefixOf]
  | cons c l => simp only [List.isPrefixOf, List.head?_cons, Bool.and_true]; rw [show ((36 : UInt8) == b) = (b == 36) from Bool.beq_comm, show ((123 : UInt8) == c) = (c == 123) from Bool.beq_comm]; rfl
theorem contains_hasN : ∀ l : List UInt8, Lib.contains l [36, 123] = hasN l
  | [] => by rfl
  | b :: l => by
    have ih := contains_hasN l
    have hg := index_ge l [36, 123]
    unfold Lib.contains at ih ⊢
    rw [index_cons, pre_name, hasN]
    by_cases c : (b == 36 && l.head? == some 123) = true
    · rw [if_pos c, c]; rfl
    · rw [if_neg c, Bool.eq_false_iff.2 c, ← ih, Bool.false_or]
      by_cases d : Lib.index l [36, 123] = -1
      · rw [d]; rfl
      · have : (Lib.index l [36, 123] == -1) = false := by simpa using d
        rw [this]
        simp only [Bool.false_eq_true, if_false]
        rw [Bool.eq_iff_iff]; simp only [decide_eq_true_eq]; omega
theorem hasN_append : ∀ a b : List UInt8, hasN (a ++ b) = (hasN a || hasN b || (a.getLast? == some 36 && b.head? == some 123))
  | [], b => by simp [hasN]
  | [x], b => by
    simp only [List.cons_append, List.nil_append, hasN, List.head?_nil, List.getLast?_singleton]
    simp
    cases hasN b <;> simp
  | x :: y :: l, b => by
    have ih := hasN_append (y :: l) b
    rw [List.cons_append, hasN, ih]
    simp only [List.cons_append, List.head?_cons, hasN, List.getLast?_cons_cons, Bool.or_assoc]
theorem last_of_drop {a : List UInt8} (h : a ≠ []) : a.drop (a.length - 1) = [a.getLast h] := by
  conv => lhs; rw [← List.dropLast_concat_getLast h]
  rw [List.drop_append]
  simp
theorem head_of_take {b : List UInt8} (h : b ≠ []) : b.take 1 = [b.head h] := by
  cases b with
  | nil => exact absurd rfl h
  | cons x l => rfl
end Go.Proofs.YtgdjfcmmpjcaaaaDoorW.Px
