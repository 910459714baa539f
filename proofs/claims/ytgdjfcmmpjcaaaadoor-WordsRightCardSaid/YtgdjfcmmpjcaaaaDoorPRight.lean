/- Which texts may be versions, as the program tells it; and that its layer 5 is awake. -/
import Derived.Test.YtgdjfcmmpjcaaaaDoorQf28
import Derived.Test.YtgdjfcmmpjcaaaaDoorLPx
namespace Go.Proofs.YtgdjfcmmpjcaaaaDoor.Pure
open Go Go.RowKit Go.Proofs.YtgdjfcmmpjcaaaaDoor.Q Go.Proofs.YtgdjfcmmpjcaaaaDoorW.PrintWords Go.Proofs.YtgdjfcmmpjcaaaaDoorW.PrintLast Go.Proofs.YtgdjfcmmpjcaaaaDoorW.Own Go.Proofs.YtgdjfcmmpjcaaaaDoorW.PrintMore Go.Proofs.YtgdjfcmmpjcaaaaDoorW.Px
set_option linter.unusedSimpArgs false
set_option linter.unusedVariables false
/-- May a byte stand in a version? -/
def sign (n : Int) : Bool := decide (33 ≤ n) && decide (n ≤ 126) && n != 91 && n != 93 && n != 40 && n != 41 && n != 44
def sign8 (c : UInt8) : Bool := sign (c.toNat : Int)
theorem bad_all : (List.range 256).all (fun n => words_Right_1.f (n : Int) == some (!sign (n : Int))) = true := by kernel_rfl
theorem bad_told (n : Int) (h0 : 0 ≤ n) (h1 : n < 256) : words_Right_1.f n = some (!sign n) := by
  have := List.all_eq_true.1 bad_all n.toNat (by simp; omega)
  rw [Int.toNat_of_nonneg h0] at this
  exact beq_iff_eq.1 this
theorem find_loop (s : ByteArray) (hs : s.size ≤ 1000000) : ∀ (d i k : Nat), i + d = s.size → slices_IndexFunc_byte_byte.l0 (k + d + 1) (bytesOf s) (s.size : Int) (i : Int) = some (if (s.data.toList.drop i).all sign8 then -1 else ((i + ((s.data.toList.drop i).takeWhile sign8).length : Nat) : Int)) := by
  intro d
  induction d with
  | zero =>
    intro i k h
    rw [slices_IndexFunc_byte_byte.l0, if_neg (by omega), show s.data.toList.drop i = [] from List.drop_eq_nil_of_le (by rw [← ba_size]; omega)]
    rfl
  | succ d ih =>
    intro i k h
    have hw : wrap64 ((i : Int) + 1) = ((i + 1 : Nat) : Int) := by unfold wrap64; omega
    have hl : i < s.data.toList.length := by rw [← ba_size]; omega
    have hr : rd (bytesOf s) (i : Int) = (((s.data.toList[i]'hl).toNat : Nat) : Int) := by
      unfold rd bytesOf
      simp [List.getD_eq_getElem?_getD, List.getElem?_map, List.getElem?_eq_getElem hl]
    have hc := (s.data.toList[i]'hl).toNat_lt
    have p0 : (i : Int) < (s.size : Int) := by omega
    have p1 : (0 : Int) ≤ (i : Int) := by omega
    have p2 : (i : Int) < ((bytesOf s).length : Int) := by rw [bytesOf_length]; omega
    rw [show k + (d + 1) + 1 = (k + d + 1) + 1 from by omega, slices_IndexFunc_byte_byte.l0, if_pos p0, if_pos p1, if_pos p2, hr, bad_told _ (by omega) (by omega), Option.bind_some, List.drop_eq_getElem_cons hl]
    by_cases c : sign8 (s.data.toList[i]'hl) = true
    · rw [if_neg (by unfold sign8 at c; rw [c]; decide), hw, ih _ _ (by omega), List.all_cons, c, Bool.true_and, List.takeWhile_cons, if_pos c, List.length_cons]
      congr 1
      by_cases e : (s.data.toList.drop (i + 1)).all sign8 = true
      · rw [if_pos e, if_pos e]
      · rw [if_neg e, if_neg e]; omega
    · have cf : sign8 (s.data.toList[i]'hl) = false := by simpa using c
      rw [if_pos (by unfold sign8 at cf; rw [cf]; rfl), List.all_cons, cf, Bool.false_and, List.takeWhile_cons, if_neg c]
      simp
def rightB (l : List UInt8) : Bool := decide (1 ≤ l.length) && decide (l.length ≤ 100) && l.all sign8
theorem right_told (s : ByteArray) (k : Nat) (hk : 101 ≤ k) : words_Right.f k s = some (rightB s.data.toList) := by
  unfold words_Right.f rightB
  have hz := ba_size s
  by_cases h : 1 ≤ s.size ∧ s.size ≤ 100
  · rw [if_pos h, decide_eq_true (show 1 ≤ s.data.toList.length by omega), decide_eq_true (show s.data.toList.length ≤ 100 by omega)]
    unfold slices_ContainsFunc_byte_byte.f slices_IndexFunc_byte_byte.f
    have := find_loop s (by omega) s.size 0 (k - s.size - 1) (by omega)
    rw [show k - s.size - 1 + s.size + 1 = k from by omega, show ((0 : Nat) : Int) = 0 from rfl, List.drop_zero] at this
    rw [bytesOf_length, this, Option.bind_some, Option.bind_some]
    by_cases e : s.data.toList.all sign8 = true
    · rw [if_pos e, e]; rfl
    · rw [if_neg e, Bool.eq_false_iff.2 e, decide_eq_true (by omega)]; rfl
  · rw [if_neg h]
    by_cases a : 1 ≤ s.size
    · rw [decide_eq_false (show ¬ s.data.toList.length ≤ 100 by omega)]; simp
    · rw [decide_eq_false (show ¬ 1 ≤ s.data.toList.length by omega)]; simp
end Go.Proofs.YtgdjfcmmpjcaaaaDoor.Pure
