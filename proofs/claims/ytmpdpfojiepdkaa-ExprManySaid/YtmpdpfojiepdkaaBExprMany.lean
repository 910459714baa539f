-- Printed by this session's wip/np.py over the kit's print program. Not trusted: Lean checks it.
import Derived.Test.YtmpdpfojiepdkaaQf5
import Derived.Test.YtmpdpfojiepdkaaLRd
namespace Go.Proofs.Ytmpdpfojiepdkaa.Q
open Go.RowKit Go.Proofs.YtmpdpfojiepdkaaW.PrintWords Go.Proofs.YtmpdpfojiepdkaaW.PrintLast Go.Proofs.YtmpdpfojiepdkaaW.Own Go.Proofs.YtmpdpfojiepdkaaW.PrintMore
set_option linter.unusedVariables false
set_option linter.unusedSimpArgs false

/-- The pure statement of newellaw10_ExprMany. -/
def newellaw10_ExprMany.Pure : Prop := ∀ (l0 : List Bool), ((l0.length ≤ maxLen ∧ ∀ x_ ∈ l0, True)) → ∃ k, newellaw10_ExprMany.f k l0 = some true
end Go.Proofs.Ytmpdpfojiepdkaa.Q
