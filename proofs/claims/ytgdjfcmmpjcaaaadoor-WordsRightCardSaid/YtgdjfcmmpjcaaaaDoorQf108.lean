-- Printed by this session's wip/np.py over the kit's print program. Not trusted: Lean checks it.
import Derived.Test.YtgdjfcmmpjcaaaaDoorQ0
import Derived.Test.YtgdjfcmmpjcaaaaDoorShelf
namespace Go.Proofs.YtgdjfcmmpjcaaaaDoor.Q
open Go.RowKit Go.Proofs.YtgdjfcmmpjcaaaaDoorW.PrintWords Go.Proofs.YtgdjfcmmpjcaaaaDoorW.PrintLast Go.Proofs.YtgdjfcmmpjcaaaaDoorW.Own Go.Proofs.YtgdjfcmmpjcaaaaDoorW.PrintMore
attribute [local go_sem] max2_int min2_int max_two min_two max_three min_three max_four min_four   -- for this text's walks alone
set_option linter.unusedVariables false
set_option linter.unusedSimpArgs false

/-! ### strings_TrimLeft: function 108 -/
def strings_TrimLeft.f (a0 a1 : ByteArray) : Option ByteArray := if a1.size = 1 ∧ (a1.data.toList.getD 0 0).toNat < 128 then some ⟨(Lib.trimLeftB a0.data.toList (a1.data.toList.getD 0 0)).toArray⟩ else none
theorem strings_TrimLeft.calls (a0 a1 : ByteArray) (r : ByteArray) (w : World) (hG : Glob w) (h : strings_TrimLeft.f a0 a1 = some r) :
    Calls Tryd.prog 108 #[.string a0, .string a1] w fun e w' => e = .returned (.string r) ∧ Drawn0 w w' := by
  unfold strings_TrimLeft.f at h
  split at h
  · rename_i hs
    obtain rfl := Option.some.inj h
    obtain ⟨c, rfl⟩ : ∃ c : UInt8, a1 = ⟨#[c]⟩ := by
      rcases a1 with ⟨⟨l⟩⟩
      match l, hs.1 with
      | [c], _ => exact ⟨c, rfl⟩
    exact (Tryd.strings_TrimLeft_one a0 c hs.2 w).mono fun e w' hh => ⟨hh.1, ⟨⟨0, hh.2⟩⟩⟩
  · exact absurd h (by simp)


end Go.Proofs.YtgdjfcmmpjcaaaaDoor.Q
