-- Printed by this session's wip/np.py over the kit's print program. Not trusted: Lean checks it.
import Derived.Test.YtgdjfcmmpjcaaaaDoorQf4
import Derived.Test.YtgdjfcmmpjcaaaaDoorLRd
namespace Go.Proofs.YtgdjfcmmpjcaaaaDoor.Q
open Go.RowKit Go.Proofs.YtgdjfcmmpjcaaaaDoorW.PrintWords Go.Proofs.YtgdjfcmmpjcaaaaDoorW.PrintLast Go.Proofs.YtgdjfcmmpjcaaaaDoorW.Own Go.Proofs.YtgdjfcmmpjcaaaaDoorW.PrintMore
set_option linter.unusedVariables false
set_option linter.unusedSimpArgs false

/-- The pure statement of newellaw09_CoordIds. -/
def newellaw09_CoordIds.Pure : Prop := ∀ (a0 : Int) (a1 : ByteArray), ((Lit.int .u8 a0).wf = true) → (a1.size ≤ 140737488351232) → ∃ k, newellaw09_CoordIds.f k a0 a1 = some true
end Go.Proofs.YtgdjfcmmpjcaaaaDoor.Q
