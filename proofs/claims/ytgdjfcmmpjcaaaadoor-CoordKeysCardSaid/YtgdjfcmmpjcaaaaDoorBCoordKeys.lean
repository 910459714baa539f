-- Printed by this session's wip/np.py over the kit's print program. Not trusted: Lean checks it.
import Derived.Test.YtgdjfcmmpjcaaaaDoorQf3
import Derived.Test.YtgdjfcmmpjcaaaaDoorLRd
namespace Go.Proofs.YtgdjfcmmpjcaaaaDoor.Q
open Go.RowKit Go.Proofs.YtgdjfcmmpjcaaaaDoorW.PrintWords Go.Proofs.YtgdjfcmmpjcaaaaDoorW.PrintLast Go.Proofs.YtgdjfcmmpjcaaaaDoorW.Own Go.Proofs.YtgdjfcmmpjcaaaaDoorW.PrintMore
set_option linter.unusedVariables false
set_option linter.unusedSimpArgs false

def wf183 (x : S183) : Prop := (x.f0.size ≤ maxLen ∧ x.f1.size ≤ maxLen)
def bulk183 (x : S183) : Nat := ((x.f0.size + 1) + (x.f1.size + 1)) + 1
theorem opens183 : Rd.Opens 183 k183 wf183 bulk183 := by
  have h := Rd.opens_struct Tryd.underlying183 (show Rd.OpensF _ 0 _ _ _ from (Rd.OpensF.cons (off' := 1) rfl (by kernel_rfl) (Rd.opens_string Tryd.underlying9 (by kernel_rfl)) (Rd.OpensF.single rfl (Rd.opens_string Tryd.underlying9 (by kernel_rfl))))) (by kernel_rfl) (fun x : S183 => (x.f0, x.f1)) (fun x => ⟨x.1, x.2⟩) (fun _ => rfl)
  exact h
theorem opensP24 : Rd.Opens 24 (Kd.iso (Kd.pair Kd.string (Kd.pair Kd.string (Kd.pair Kd.string (Kd.pair Kd.string (Kd.pair Kd.string (Kd.pair Kd.string (Kd.pair Kd.bool (Kd.slice 183 k183)))))))) (fun x => x)) (fun x => (x.1.size ≤ maxLen ∧ (x.2.1.size ≤ maxLen ∧ (x.2.2.1.size ≤ maxLen ∧ (x.2.2.2.1.size ≤ maxLen ∧ (x.2.2.2.2.1.size ≤ maxLen ∧ (x.2.2.2.2.2.1.size ≤ maxLen ∧ (True ∧ (x.2.2.2.2.2.2.2.length ≤ maxLen ∧ ∀ x_ ∈ x.2.2.2.2.2.2.2, wf183 x_))))))))) (fun x => ((x.1.size + 1) + ((x.2.1.size + 1) + ((x.2.2.1.size + 1) + ((x.2.2.2.1.size + 1) + ((x.2.2.2.2.1.size + 1) + ((x.2.2.2.2.2.1.size + 1) + (1 + (Rd.sumOf (fun x_ => bulk183 x_) x.2.2.2.2.2.2.2 + 1)))))))) + 1) :=
  Rd.opens_struct (t := 24) Tryd.underlying24 (show Rd.OpensF _ 0 _ _ _ from (Rd.OpensF.cons (off' := 1) rfl (by kernel_rfl) (Rd.opens_string Tryd.underlying9 (by kernel_rfl)) (Rd.OpensF.cons (off' := 2) rfl (by kernel_rfl) (Rd.opens_string Tryd.underlying9 (by kernel_rfl)) (Rd.OpensF.cons (off' := 3) rfl (by kernel_rfl) (Rd.opens_string Tryd.underlying9 (by kernel_rfl)) (Rd.OpensF.cons (off' := 4) rfl (by kernel_rfl) (Rd.opens_string Tryd.underlying9 (by kernel_rfl)) (Rd.OpensF.cons (off' := 5) rfl (by kernel_rfl) (Rd.opens_string Tryd.underlying9 (by kernel_rfl)) (Rd.OpensF.cons (off' := 6) rfl (by kernel_rfl) (Rd.opens_string Tryd.underlying9 (by kernel_rfl)) (Rd.OpensF.cons (off' := 7) rfl (by kernel_rfl) (Rd.opens_bool Tryd.underlying4 (by kernel_rfl)) (Rd.OpensF.single rfl (Rd.opens_slice Tryd.underlying22 (by kernel_rfl) opens183)))))))))) (by kernel_rfl) (fun x => x) (fun x => x) (fun _ => rfl)
/-- The pure statement of newellaw09_CoordKeys. -/
def newellaw09_CoordKeys.Pure : Prop := ∀ (a0_0 : ByteArray) (a0_1 : ByteArray) (a0_2 : ByteArray) (a0_3 : ByteArray) (a0_4 : ByteArray) (a0_5 : ByteArray) (a0_6 : Bool) (l0_7 : List (S183)) (a1_0 : ByteArray) (a1_1 : ByteArray) (a1_2 : ByteArray) (a1_3 : ByteArray) (a1_4 : ByteArray) (a1_5 : ByteArray) (a1_6 : Bool) (l1_7 : List (S183)), (a0_0.size ≤ maxLen) → (a0_1.size ≤ maxLen) → (a0_2.size ≤ maxLen) → (a0_3.size ≤ maxLen) → (a0_4.size ≤ maxLen) → (a0_5.size ≤ maxLen) → ((l0_7.length ≤ maxLen ∧ ∀ x_ ∈ l0_7, wf183 x_)) → (a1_0.size ≤ maxLen) → (a1_1.size ≤ maxLen) → (a1_2.size ≤ maxLen) → (a1_3.size ≤ maxLen) → (a1_4.size ≤ maxLen) → (a1_5.size ≤ maxLen) → ((l1_7.length ≤ maxLen ∧ ∀ x_ ∈ l1_7, wf183 x_)) → ∃ k, newellaw09_CoordKeys.f k a0_0 a0_1 a0_2 a0_3 a0_4 a0_5 a0_6 l0_7 a1_0 a1_1 a1_2 a1_3 a1_4 a1_5 a1_6 l1_7 = some true
end Go.Proofs.YtgdjfcmmpjcaaaaDoor.Q
