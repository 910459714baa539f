/- The plain law of ExprHas, about the functions that the walks compute. -/
import Derived.Test.YtmpdpfojiepdkaaBExprHas
import Derived.Test.YtmpdpfojiepdkaaLPx
namespace Go.Proofs.Ytmpdpfojiepdkaa.Pure
open Go Go.RowKit Go.Proofs.Ytmpdpfojiepdkaa.Q Go.Proofs.YtmpdpfojiepdkaaW.PrintWords Go.Proofs.YtmpdpfojiepdkaaW.PrintLast Go.Proofs.YtmpdpfojiepdkaaW.Own Go.Proofs.YtmpdpfojiepdkaaW.PrintMore Go.Proofs.YtmpdpfojiepdkaaW.Px
theorem awk8 : newellaw10_awake.f 8 = some true := by kernel_rfl
theorem awk9 : newellaw10_awake.f 9 = some true := newellaw10_awake.mono _ _ awk8
theorem has_eq (a : ByteArray) (h : a.size < 4294967281) : expr_Has.f a = some (hasN a.data.toList) := by
  unfold expr_Has.f strings_Contains.f
  rw [if_pos h]
  simp only [Option.bind_some]
  rw [← contains_hasN]
theorem join2 (a b : ByteArray) (ha : a.size ≤ 200) (hb : b.size ≤ 200) : expr_Join.f [(⟨false, a⟩ : S29), (⟨false, b⟩ : S29)] = some (a ++ b) := by
  unfold expr_Join.f
  rw [if_pos (by simp [ExprJoin.room]; omega)]
  apply congrArg some
  apply ba_ext
  simp [ExprJoin.joined, ExprJoin.piece]
theorem ExprHas : newellaw10_ExprHas.Pure := by
  intro a0 a1 _ _
  refine ⟨10, ?_⟩
  unfold newellaw10_ExprHas.f
  by_cases c0 : (a0.size : Int) > 200
  · rw [if_pos c0, newellaw10_ExprHas.j0, if_pos rfl, awk9]; rfl
  rw [if_neg c0]
  by_cases c1 : (a1.size : Int) > 200
  · rw [decide_eq_true c1, newellaw10_ExprHas.j0, if_pos rfl, awk9]; rfl
  have h0 : a0.size ≤ 200 := by omega
  have h1 : a1.size ≤ 200 := by omega
  rw [decide_eq_false c1, newellaw10_ExprHas.j0, if_neg (by decide), has_eq a0 (by omega)]
  have last : ∀ b, b = hasN (a0.data.toList ++ a1.data.toList) → newellaw10_ExprHas.j1 9 a0 a1 (⟨#[36, 123]⟩ : ByteArray) b = some true := by
    intro b hb
    have hz : (a0 ++ a1).size = a0.size + a1.size := ByteArray.size_append
    have hz2 : ((a0 ++ (⟨#[36, 123]⟩ : ByteArray)) ++ a1).size = a0.size + 2 + a1.size := by rw [ByteArray.size_append, ByteArray.size_append]; rfl
    have hz3 : (a0 ++ (⟨#[36, 123]⟩ : ByteArray)).size = a0.size + 2 := by rw [ByteArray.size_append]; rfl
    rw [newellaw10_ExprHas.j1, awk8]
    simp only [Option.bind_some, if_true]
    rw [if_pos (by omega), has_eq _ (by omega)]
    simp only [Option.bind_some]
    rw [if_pos (by rw [hb, ba_append]; simp), if_pos (by have : (⟨#[36, 123]⟩ : ByteArray).size = 2 := rfl; omega), if_pos (by omega), has_eq _ (by omega)]
    simp only [Option.bind_some]
    rw [if_pos (by rw [ba_append, ba_append, hasN_append, hasN_append]; simp [hasN]), join2 _ _ h0 h1]
    simp
  simp only [Option.bind_some]
  by_cases d0 : hasN a0.data.toList = true
  · rw [if_pos d0, last _ (by rw [hasN_append, d0]; rfl)]
  rw [if_neg d0, has_eq a1 (by omega)]
  have e0 : hasN a0.data.toList = false := by simpa using d0
  simp only [Option.bind_some]
  by_cases d1 : hasN a1.data.toList = true
  · rw [if_pos d1, last _ (by rw [hasN_append, d1, e0]; rfl)]
  rw [if_neg d1]
  have e1 : hasN a1.data.toList = false := by simpa using d1
  by_cases z0 : (a0.size : Int) > 0
  · rw [if_pos z0]
    have n0 : a0.data.toList ≠ [] := fun h => by have t := ba_size a0; rw [h, List.length_nil] at t; omega
    by_cases z1 : (a1.size : Int) > 0
    · have n1 : a1.data.toList ≠ [] := fun h => by have t := ba_size a1; rw [h, List.length_nil] at t; omega
      have hw : wrap64 ((a0.size : Int) - 1) = ((a0.size - 1 : Nat) : Int) := by unfold wrap64; omega
      have q1 : (0 : Int) ≤ ((a0.size - 1 : Nat) : Int) := by omega
      have q2 : ((a0.size - 1 : Nat) : Int) ≤ (a0.size : Int) := by omega
      have q3 : (1 : Int) ≤ (a1.size : Int) := by omega
      rw [if_pos z1, hw, if_pos q1, if_pos q2, if_pos q3, Int.toNat_natCast]
      have q4 : (a0.extract (a0.size - 1) a0.size).size + (a1.extract 0 1).size ≤ 9223372036854775807 := by rw [ByteArray.size_extract, ByteArray.size_extract]; omega
      rw [if_pos q4]
      apply last
      rw [hasN_append, e0, e1, ba_toList, ba_append, ba_extract, ba_extract, List.take_of_length_le (by rw [← ba_size]; exact Nat.le_refl _), ba_size a0, last_of_drop n0, List.drop_zero, head_of_take n1, List.getLast?_eq_some_getLast n0, List.head?_eq_some_head n1]
      rw [Bool.eq_iff_iff]; simp
    · rw [if_neg z1]
      apply last
      have : a1.data.toList = [] := List.eq_nil_of_length_eq_zero (by rw [← ba_size]; omega)
      rw [this] at e1 ⊢
      simp [e0]
  · rw [if_neg z0]
    apply last
    have : a0.data.toList = [] := List.eq_nil_of_length_eq_zero (by rw [← ba_size]; omega)
    rw [this]
    simp [e1]
end Go.Proofs.Ytmpdpfojiepdkaa.Pure
