/- Layer 5 is awake, whatever the number of rounds from forty on. -/
import Derived.Test.YtgdjfcmmpjcaaaaDoorQf27
import Derived.Test.YtgdjfcmmpjcaaaaDoorLPx
namespace Go.Proofs.YtgdjfcmmpjcaaaaDoor.Pure
open Go Go.RowKit Go.Proofs.YtgdjfcmmpjcaaaaDoor.Q Go.Proofs.YtgdjfcmmpjcaaaaDoorW.PrintWords
theorem awake5_40 : newellaw05_awake.f 40 = some true := by kernel_rfl
theorem awake5_ge (k : Nat) (h : 40 ≤ k) : newellaw05_awake.f k = some true := by
  obtain ⟨j, rfl⟩ := Nat.exists_eq_add_of_le h
  clear h
  induction j with
  | zero => exact awake5_40
  | succ j ih => exact newellaw05_awake.mono _ _ ih
end Go.Proofs.YtgdjfcmmpjcaaaaDoor.Pure
