/- The plain law of CoordIds, about the functions that the walks compute. -/
import Derived.Test.YtgdjfcmmpjcaaaaDoorBCoordIds
import Derived.Test.YtgdjfcmmpjcaaaaDoorPCoord
namespace Go.Proofs.YtgdjfcmmpjcaaaaDoor.Pure
open Go Go.RowKit Go.Proofs.YtgdjfcmmpjcaaaaDoor.Q Go.Proofs.YtgdjfcmmpjcaaaaDoorW.PrintWords Go.Proofs.YtgdjfcmmpjcaaaaDoorW.PrintLast Go.Proofs.YtgdjfcmmpjcaaaaDoorW.Own Go.Proofs.YtgdjfcmmpjcaaaaDoorW.PrintMore Go.Proofs.YtgdjfcmmpjcaaaaDoorW.Px
set_option linter.unusedSimpArgs false
set_option linter.unusedVariables false
theorem parse_two : coord_Parse.f 600 (⟨#[103, 58, 97]⟩ : ByteArray) = some (⟨#[]⟩, ⟨#[]⟩, ⟨#[]⟩, false) := by kernel_rfl
theorem parse_four : coord_Parse.f 600 (⟨#[103, 58, 97, 58, 49, 58, 50]⟩ : ByteArray) = some (⟨#[]⟩, ⟨#[]⟩, ⟨#[]⟩, false) := by kernel_rfl
theorem parse_none : coord_Parse.f 600 (⟨#[]⟩ : ByteArray) = some (⟨#[]⟩, ⟨#[]⟩, ⟨#[]⟩, false) := by kernel_rfl
theorem of_byte (n : Int) (h0 : 0 ≤ n) (h1 : n < 256) : ∃ c : UInt8, (c.toNat : Int) = n := by
  refine ⟨UInt8.ofNat n.toNat, ?_⟩
  rw [UInt8.toNat_ofNat']
  omega
theorem CoordIds : newellaw09_CoordIds.Pure := by
  intro a0 a1 hw _
  refine ⟨600 + 1, ?_⟩
  have hr : 0 ≤ a0 ∧ a0 < 256 := by
    have h : IntKind.u8.min ≤ a0 ∧ a0 ≤ IntKind.u8.max := by simpa [Lit.wf] using hw
    have e0 : IntKind.u8.min = 0 := by decide
    have e1 : IntKind.u8.max = 255 := by decide
    omega
  obtain ⟨c, hc⟩ := of_byte a0 hr.1 hr.2
  have sleep : newellaw09_awake.f (600 + 1) = some true := awake_ge _ (by decide)
  have hy : strOfNums [a0] = tx [c] := by
    apply ba_ext
    rw [← hc]
    show [UInt8.ofNat (Int.toNat (c.toNat : Int))] = [c]
    rw [Int.toNat_natCast]; simp
  have core : ∀ b, b = mayI a0 → ¬ (a1.size : Int) > 100 → newellaw09_CoordIds.j0 (600 + 1) a0 a1 b = some true := by
    intro b hb hs
    have hz := ba_size a1
    have one : idOk [c] = mayI a0 := by rw [← hc]; unfold idOk may8; simp [may8]
    have two : idOk [97, c] = mayI a0 := by
      rw [← hc]; unfold idOk
      have : mayI ((97 : UInt8).toNat : Int) = true := by decide
      simp only [List.isEmpty_cons, Bool.not_false, Bool.true_and, List.all_cons, List.all_nil, may8, this, Bool.and_true, List.length_cons, List.length_nil]
      simp
    have q1 : 1 + (tx [c]).size ≤ 9223372036854775807 := by rw [tx_size]; simp
    have q2 : a1.size + a1.size ≤ 9223372036854775807 := by omega
    rw [newellaw09_CoordIds.j0, Option.bind_some, parse_two, Option.bind_some, parse_four, Option.bind_some, parse_none, Option.bind_some, awake_ge _ (by decide), Option.bind_some, if_pos rfl, hy, id_told _ _ (by decide), Option.bind_some, tx_toList, one, if_pos (by rw [hb]; simp), if_pos q1]
    rw [show (⟨#[97]⟩ : ByteArray) ++ tx [c] = tx [97, c] from tx_append [97] [c], id_told _ _ (by decide), Option.bind_some, tx_toList, two, if_pos (by rw [hb]; simp), id_told _ _ (by decide), Option.bind_some, if_neg (by decide), if_neg (by decide), if_neg (by decide), if_neg (by decide), if_pos q2, id_told _ _ (by decide), Option.bind_some, id_told _ _ (by decide), Option.bind_some]
    apply congrArg some
    rw [beq_iff_eq, ba_append]
    unfold idOk
    rw [List.all_append, List.length_append, decide_eq_true (show a1.data.toList.length + a1.data.toList.length ≤ 500 by omega), decide_eq_true (show a1.data.toList.length ≤ 500 by omega)]
    cases a1.data.toList <;> simp
  unfold newellaw09_CoordIds.f
  by_cases hs : (a1.size : Int) > 100
  · rw [if_pos hs, sleep]; rfl
  rw [if_neg hs]
  repeat' split
  all_goals refine core _ ?_ hs
  all_goals first
    | exact (decide_eq_true (by omega)).symm
    | (unfold mayI; rw [Bool.eq_iff_iff]; simp only [beq_iff_eq, decide_eq_true_eq]; omega)
end Go.Proofs.YtgdjfcmmpjcaaaaDoor.Pure
