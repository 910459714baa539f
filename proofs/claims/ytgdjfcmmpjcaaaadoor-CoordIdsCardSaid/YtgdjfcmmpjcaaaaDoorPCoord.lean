/- Names of projects: which texts are ids, a dependency's key, and that the program is awake. -/
import Derived.Test.YtgdjfcmmpjcaaaaDoorQf24
import Derived.Test.YtgdjfcmmpjcaaaaDoorLPx
namespace Go.Proofs.YtgdjfcmmpjcaaaaDoor.Pure
open Go Go.RowKit Go.Proofs.YtgdjfcmmpjcaaaaDoor.Q Go.Proofs.YtgdjfcmmpjcaaaaDoorW.PrintWords Go.Proofs.YtgdjfcmmpjcaaaaDoorW.PrintLast Go.Proofs.YtgdjfcmmpjcaaaaDoorW.Own Go.Proofs.YtgdjfcmmpjcaaaaDoorW.PrintMore Go.Proofs.YtgdjfcmmpjcaaaaDoorW.Px
set_option linter.unusedSimpArgs false
set_option linter.unusedVariables false

def tx (l : List UInt8) : ByteArray := ⟨l.toArray⟩
theorem tx_toList (l : List UInt8) : (tx l).data.toList = l := rfl
theorem tx_data (a : ByteArray) : tx a.data.toList = a := ba_ext rfl
theorem tx_size (l : List UInt8) : (tx l).size = l.length := by rw [ba_size]; rfl
theorem tx_append (a b : List UInt8) : tx a ++ tx b = tx (a ++ b) := ba_ext (by rw [ba_append]; rfl)
theorem tx_tail (c : UInt8) (l : List UInt8) : (tx (c :: l)).extract 1 (tx (c :: l)).size = tx l := by
  apply ba_ext
  rw [ba_extract, tx_size, tx_toList, tx_toList, List.take_of_length_le (Nat.le_refl _)]
  rfl
theorem bt_head (c : UInt8) (l : List UInt8) : bt (tx (c :: l)) 0 = (c.toNat : Int) := by
  unfold bt
  rw [dif_pos (by rw [tx_size]; simp)]
  rfl
/-- May a byte stand in an id? -/
def mayI (n : Int) : Bool := decide ((97 ≤ n ∧ n ≤ 122) ∨ (65 ≤ n ∧ n ≤ 90) ∨ (48 ≤ n ∧ n ≤ 57) ∨ n = 95 ∨ n = 45 ∨ n = 46)
theorem letter_told (n : Int) : coord_letter.f n = some (mayI n) := by
  unfold coord_letter.f
  repeat' split
  all_goals first
    | (rw [show mayI n = true from decide_eq_true (by omega)]; done)
    | (apply congrArg some; unfold mayI; rw [Bool.eq_iff_iff]; simp only [beq_iff_eq, decide_eq_true_eq]; omega)
def may8 (c : UInt8) : Bool := mayI (c.toNat : Int)
def idOk (l : List UInt8) : Bool := !l.isEmpty && decide (l.length ≤ 500) && l.all may8
theorem id_loop : ∀ (l : List UInt8) (c : UInt8) (k : Nat), coord_Id.l0 (k + l.length + 1) (tx (c :: l)) = some ((c :: l).all may8)
  | [], c, k => by
    have h1 : 0 < ((tx [c]).size : Int) := by rw [tx_size]; simp
    have h2 : 1 ≤ ((tx [c]).size : Int) := by rw [tx_size]; simp
    rw [coord_Id.l0, if_pos h1, bt_head, letter_told, Option.bind_some, tx_tail]
    by_cases h : mayI (c.toNat : Int) = true
    · rw [if_pos h, if_pos h2, if_pos (by rw [ba_toList]; rfl)]
      simp [may8, h]
    · rw [if_neg h]
      simp [may8, h]
  | d :: l, c, k => by
    have ih := id_loop l d k
    have h1 : 0 < ((tx (c :: d :: l)).size : Int) := by rw [tx_size]; simp only [List.length_cons]; omega
    have h2 : 1 ≤ ((tx (c :: d :: l)).size : Int) := by rw [tx_size]; simp only [List.length_cons]; omega
    rw [coord_Id.l0, if_pos h1, bt_head, letter_told, Option.bind_some, tx_tail]
    by_cases h : mayI (c.toNat : Int) = true
    · rw [if_pos h, if_pos h2, if_neg (by rw [ba_toList, tx_toList]; simp), List.length_cons, show k + (l.length + 1) = k + l.length + 1 from rfl, ih]
      simp [may8, h]
    · rw [if_neg h]
      simp [may8, h]
theorem id_told (a : ByteArray) (k : Nat) (hk : 502 ≤ k) : coord_Id.f k a = some (idOk a.data.toList) := by
  obtain ⟨k, rfl⟩ : ∃ j, k = j + 1 := ⟨k - 1, by omega⟩
  unfold coord_Id.f
  have hz := ba_size a
  by_cases h0 : a.toList = []
  · rw [if_pos h0, coord_Id.j0, if_pos rfl]
    rw [ba_toList] at h0
    rw [h0]; rfl
  · rw [if_neg h0]
    rw [ba_toList] at h0
    by_cases h1 : (a.size : Int) > 500
    · rw [decide_eq_true h1, coord_Id.j0, if_pos rfl]
      unfold idOk
      rw [decide_eq_false (show ¬ a.data.toList.length ≤ 500 by omega), Bool.and_false, Bool.false_and]
    · rw [decide_eq_false h1, coord_Id.j0, if_neg (by decide)]
      obtain ⟨c, l, hl⟩ : ∃ c l, a.data.toList = c :: l := by
        cases hq : a.data.toList with
        | nil => exact absurd hq h0
        | cons c l => exact ⟨c, l, rfl⟩
      have hll : l.length + 1 = a.size := by rw [hz, hl, List.length_cons]
      have := id_loop l c (k - (l.length + 1))
      rw [show k - (l.length + 1) + l.length + 1 = k from by omega, ← hl, tx_data] at this
      rw [this]
      unfold idOk
      rw [decide_eq_true (show a.data.toList.length ≤ 500 by omega)]
      rw [hl]; rfl
/-- What a dependency's key is. -/
def orJar (t : List UInt8) : List UInt8 := if t = [] then [106, 97, 114] else t
def keyOf (g a t c : List UInt8) : List UInt8 := g ++ (58 :: (a ++ (58 :: (orJar t ++ (58 :: c)))))
theorem or_told (t : ByteArray) (k : Nat) : cmp_Or_string.f (k + 2) [t, (⟨#[106, 97, 114]⟩ : ByteArray)] = some (tx (orJar t.data.toList)) := by
  unfold cmp_Or_string.f
  have hw : wrap64 (0 + 1) = 1 := by unfold wrap64; omega
  rw [cmp_Or_string.l0, if_pos (by simp), if_pos (by omega), if_pos (by simp), hw]
  have e0 : rdOf ByteArray.empty [t, (⟨#[106, 97, 114]⟩ : ByteArray)] 0 = t := rfl
  have e1 : rdOf ByteArray.empty [t, (⟨#[106, 97, 114]⟩ : ByteArray)] 1 = (⟨#[106, 97, 114]⟩ : ByteArray) := rfl
  rw [e0, ba_toList, ba_toList]
  by_cases h : t.data.toList = []
  · rw [if_pos h, cmp_Or_string.l0, if_pos (by simp), if_pos (by omega), if_pos (by simp), e1, if_neg (by rw [ba_toList, ba_toList]; decide)]
    unfold orJar
    rw [if_pos h]; rfl
  · rw [if_neg h]
    unfold orJar
    rw [if_neg h, tx_data]
theorem key_told (g a v t c s : ByteArray) (o : Bool) (x : List S183) (k : Nat) (hg : g.size ≤ 100000) (ha : a.size ≤ 100000) (ht : t.size ≤ 100000) (hc : c.size ≤ 100000) :
    coord_Key.f (k + 2) g a v t c s o x = some (tx (keyOf g.data.toList a.data.toList t.data.toList c.data.toList)) := by
  unfold coord_Key.f
  have e1 : (⟨#[58]⟩ : ByteArray).size = 1 := rfl
  have z1 : (g ++ (⟨#[58]⟩ : ByteArray)).size = g.size + 1 := by rw [ByteArray.size_append]; rfl
  have z2 : ((g ++ (⟨#[58]⟩ : ByteArray)) ++ a).size = g.size + 1 + a.size := by rw [ByteArray.size_append, z1]
  have z3 : (((g ++ (⟨#[58]⟩ : ByteArray)) ++ a) ++ (⟨#[58]⟩ : ByteArray)).size = g.size + 1 + a.size + 1 := by rw [ByteArray.size_append, z2]; rfl
  have zo : (tx (orJar t.data.toList)).size ≤ 100003 := by
    rw [tx_size]; unfold orJar; split
    · simp
    · rw [← ba_size]; omega
  have z4 : ((((g ++ (⟨#[58]⟩ : ByteArray)) ++ a) ++ (⟨#[58]⟩ : ByteArray)) ++ tx (orJar t.data.toList)).size = g.size + 1 + a.size + 1 + (tx (orJar t.data.toList)).size := by rw [ByteArray.size_append, z3]
  have z5 : (((((g ++ (⟨#[58]⟩ : ByteArray)) ++ a) ++ (⟨#[58]⟩ : ByteArray)) ++ tx (orJar t.data.toList)) ++ (⟨#[58]⟩ : ByteArray)).size = g.size + 1 + a.size + 1 + (tx (orJar t.data.toList)).size + 1 := by rw [ByteArray.size_append, z4]; rfl
  have q1 : g.size + 1 ≤ 9223372036854775807 := by omega
  have q2 : (g ++ (⟨#[58]⟩ : ByteArray)).size + a.size ≤ 9223372036854775807 := by omega
  have q3 : ((g ++ (⟨#[58]⟩ : ByteArray)) ++ a).size + 1 ≤ 9223372036854775807 := by omega
  have q4 : (((g ++ (⟨#[58]⟩ : ByteArray)) ++ a) ++ (⟨#[58]⟩ : ByteArray)).size + (tx (orJar t.data.toList)).size ≤ 9223372036854775807 := by omega
  have q5 : ((((g ++ (⟨#[58]⟩ : ByteArray)) ++ a) ++ (⟨#[58]⟩ : ByteArray)) ++ tx (orJar t.data.toList)).size + 1 ≤ 9223372036854775807 := by omega
  have q6 : (((((g ++ (⟨#[58]⟩ : ByteArray)) ++ a) ++ (⟨#[58]⟩ : ByteArray)) ++ tx (orJar t.data.toList)) ++ (⟨#[58]⟩ : ByteArray)).size + c.size ≤ 9223372036854775807 := by omega
  rw [if_pos q1, if_pos q2, if_pos q3, or_told, Option.bind_some, if_pos q4, if_pos q5, if_pos q6]
  apply congrArg some
  apply ba_ext
  rw [ba_append, ba_append, ba_append, ba_append, ba_append, ba_append, tx_toList, tx_toList]
  unfold keyOf
  simp
theorem awake_20 : newellaw09_awake.f 20 = some true := by kernel_rfl
theorem awake_ge (k : Nat) (h : 20 ≤ k) : newellaw09_awake.f k = some true := by
  obtain ⟨j, rfl⟩ := Nat.exists_eq_add_of_le h
  clear h
  induction j with
  | zero => exact awake_20
  | succ j ih => exact newellaw09_awake.mono _ _ ih
end Go.Proofs.YtgdjfcmmpjcaaaaDoor.Pure
