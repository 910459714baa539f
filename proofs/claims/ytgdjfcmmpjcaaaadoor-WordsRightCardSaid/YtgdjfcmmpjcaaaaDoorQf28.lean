-- Printed by this session's wip/np.py over the kit's print program. Not trusted: Lean checks it.
import Derived.Test.YtgdjfcmmpjcaaaaDoorQ0
import Derived.Test.YtgdjfcmmpjcaaaaDoorQf66
namespace Go.Proofs.YtgdjfcmmpjcaaaaDoor.Q
open Go.RowKit Go.Proofs.YtgdjfcmmpjcaaaaDoorW.PrintWords Go.Proofs.YtgdjfcmmpjcaaaaDoorW.PrintLast Go.Proofs.YtgdjfcmmpjcaaaaDoorW.Own Go.Proofs.YtgdjfcmmpjcaaaaDoorW.PrintMore
attribute [local go_sem] max2_int min2_int max_two min_two max_three min_three max_four min_four   -- for this text's walks alone
set_option linter.unusedVariables false
set_option linter.unusedSimpArgs false

/-! ### words_Right: function 28 -/
def words_Right.f (k : Nat) (a0 : ByteArray) : Option Bool := if 1 ≤ a0.size ∧ a0.size ≤ 100 then (slices_ContainsFunc_byte_byte.f k (bytesOf a0)).bind fun t => some (!t) else some false
theorem words_Right.mono : ∀ a0 k, LeO (words_Right.f k a0) (words_Right.f (k + 1) a0) := by
  intro a0 k
  unfold words_Right.f
  exact LeO.ite (LeO.bind (slices_ContainsFunc_byte_byte.mono _ _) (fun _ => LeO.refl _)) (LeO.refl _)
set_option maxHeartbeats 4000000 in
set_option maxRecDepth 100000 in
theorem words_Right.calls (k : Nat) (a0 : ByteArray) (r : Bool) (w : World) (hG : Glob w) (h : words_Right.f k a0 = some r) :
    Calls Tryd.prog 28 #[.string a0] w fun e w' => e = .returned (.bool r) ∧ Below w.heap.size w w' := by
  unfold words_Right.f at h
  go_enter Tryd.func28, Tryd.ntmps28
  by_cases c1 : 1 ≤ a0.size
  · by_cases c2 : a0.size ≤ 100
    · rw [if_pos ⟨c1, c2⟩] at h
      obtain ⟨t, ht, h⟩ := Option.bind_eq_some_iff.1 h
      obtain rfl := Option.some.inj h
      have d1 : decide (1 ≤ (a0.size : Int)) = true := decide_eq_true (by omega)
      have d1' : decide (1 ≤ a0.size) = true := decide_eq_true (by omega)
      have d2 : decide ((a0.size : Int) ≤ 100) = true := decide_eq_true (by omega)
      have d2' : decide (a0.size ≤ 100) = true := decide_eq_true (by omega)
      have kb := fun W => print_bytes (P := Tryd.prog) 9 30 5 Tryd.underlying9 Tryd.underlying30 Tryd.underlying5 a0 W
      go_wp2_with (fail)
      have hr : Kd.C (Kd.int .u8) (Lib.bytesWorld w 5 a0) (some ⟨w.heap.size, 0, none⟩) a0.size (bytesOf a0) := Kd.C_of_reads (enc := Value.int .u8) (d := (0 : Int)) (h1 := fun _ => rfl) (bytes_reads w 5 a0 (by omega))
      have hb : Below w.heap.size w (Lib.bytesWorld w 5 a0) := bytes_below (Below.refl _ _) (Nat.le_refl _) _ _
      rw [← bytesOf_length] at hr ⊢
      refine (slices_ContainsFunc_byte_byte.calls k _ _ (bytesOf a0) t _ hr ?_ (hG.step hb) ht).mono fun e w' hh => ?_
      · rw [bytesOf_length]; exact grownCap_ge _ _ _ _
      obtain ⟨rfl, hd⟩ := hh
      go_wp2
      go_ret
      exact ⟨rfl, hb.trans (hd.below.mono hb.size)⟩
    · rw [if_neg (fun h => c2 h.2)] at h
      obtain rfl := Option.some.inj h
      have d1 : decide (1 ≤ (a0.size : Int)) = true := decide_eq_true (by omega)
      have d1' : decide (1 ≤ a0.size) = true := decide_eq_true (by omega)
      have d2 : decide ((a0.size : Int) ≤ 100) = false := decide_eq_false (by omega)
      have d2' : decide (a0.size ≤ 100) = false := decide_eq_false (by omega)
      go_wp2
      go_ret
      exact ⟨rfl, Below.refl _ _⟩
  · rw [if_neg (fun h => c1 h.1)] at h
    obtain rfl := Option.some.inj h
    have d1 : decide (1 ≤ (a0.size : Int)) = false := decide_eq_false (by omega)
    have d1' : decide (1 ≤ a0.size) = false := decide_eq_false (by omega)
    go_wp2
    go_ret
    exact ⟨rfl, Below.refl _ _⟩


end Go.Proofs.YtgdjfcmmpjcaaaaDoor.Q
