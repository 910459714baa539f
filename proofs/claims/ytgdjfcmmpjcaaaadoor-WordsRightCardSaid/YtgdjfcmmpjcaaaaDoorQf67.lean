-- Printed by this session's wip/np.py over the kit's print program. Not trusted: Lean checks it.
import Derived.Test.YtgdjfcmmpjcaaaaDoorQ0
import Derived.Test.YtgdjfcmmpjcaaaaDoorQf68
namespace Go.Proofs.YtgdjfcmmpjcaaaaDoor.Q
open Go.RowKit Go.Proofs.YtgdjfcmmpjcaaaaDoorW.PrintWords Go.Proofs.YtgdjfcmmpjcaaaaDoorW.PrintLast Go.Proofs.YtgdjfcmmpjcaaaaDoorW.Own Go.Proofs.YtgdjfcmmpjcaaaaDoorW.PrintMore
attribute [local go_sem] max2_int min2_int max_two min_two max_three min_three max_four min_four   -- for this text's walks alone
set_option linter.unusedVariables false
set_option linter.unusedSimpArgs false

/-! ### words_Right_1: function 67 -/
def words_Right_1.f (a0 : Int) : Option (Bool) := if a0 < 33 then (some true) else (if a0 > 126 then (some true) else ((strings_IndexByte.f (⟨#[91, 93, 40, 41, 44]⟩ : ByteArray) a0).bind fun t101 => (some (decide (t101 ≥ 0)))))
set_option maxHeartbeats 8000000 in
set_option maxRecDepth 100000 in
theorem words_Right_1.calls (a0 : Int) (r : Bool) (w : World) (hG : Glob w) (h : words_Right_1.f a0 = some r) :
    Calls Tryd.prog 67 #[.int .u8 a0] w fun e w' => e = .returned (.bool r) ∧ Drawn0 w w' := by
  have HG := Aside0.mk hG
  clear hG
  have H : (if a0 < 33 then (some true) else (if a0 > 126 then (some true) else ((strings_IndexByte.f (⟨#[91, 93, 40, 41, 44]⟩ : ByteArray) a0).bind fun t101 => (some (decide (t101 ≥ 0)))))) = some r := h
  clear h
  by_cases c2 : a0 < 33
  · rw [if_pos c2] at H
    have c2b0 : decide (a0 < 33) = true := decide_eq_true c2
    clear c2
    obtain rfl := Option.some.inj H
    go_enter Tryd.func67, Tryd.ntmps67
    go_wp2
    go_ret
    exact ⟨by first | rfl | (simp; done) | (simp [*]; done), by repeat (first | exact Drawn0.refl _ | apply Drawn0.step)⟩
  · rw [if_neg c2] at H
    have c2b0 : decide (a0 < 33) = false := decide_eq_false c2
    clear c2
    by_cases c3 : a0 > 126
    · rw [if_pos c3] at H
      have c3b0 : decide (126 < a0) = true := decide_eq_true c3
      clear c3
      obtain rfl := Option.some.inj H
      go_enter Tryd.func67, Tryd.ntmps67
      go_wp2
      go_ret
      exact ⟨by first | rfl | (simp; done) | (simp [*]; done), by repeat (first | exact Drawn0.refl _ | apply Drawn0.step)⟩
    · rw [if_neg c3] at H
      have c3b0 : decide (126 < a0) = false := decide_eq_false c3
      clear c3
      replace H := Option.bind_eq_some_iff.mp H
      obtain ⟨t101, A40, H⟩ := H
      replace H : (some (decide (t101 ≥ 0))) = some r := H
      have A4 := Aside0.mk A40
      clear A40
      obtain rfl := Option.some.inj H
      go_enter Tryd.func67, Tryd.ntmps67
      go_wp2_with (first | (go_at_call 68; (with_reducible refine (strings_IndexByte.calls (⟨#[91, 93, 40, 41, 44]⟩ : ByteArray) a0 t101 _ ?side1 A4.out).mono ?_); (case side1 => exact Glob.drawn HG.out (by repeat (first | exact Drawn0.refl _ | apply Drawn0.step))); rintro e w' ⟨rfl, ⟨nd, rfl⟩⟩))
      go_ret
      exact ⟨by first | rfl | (simp; done) | (simp [*]; done), by repeat (first | exact Drawn0.refl _ | apply Drawn0.step)⟩

end Go.Proofs.YtgdjfcmmpjcaaaaDoor.Q
