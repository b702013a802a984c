/- The closed facts of the row of SurgeRules. -/
import Derived.Test.YtgidbailiababaaGreatDoorRows
import Derived.JoinedOf
set_option linter.all false
namespace Go.Proofs.YtgidbailiababaaGreatDoor.surgeRules
open Go
theorem closed : joinedFacts Tryz.pinned.checked.prog 9 Tryz.f9 Rows.surgeRulesSpec Rows.surgeRulesRow = true := by kernel_rfl
end Go.Proofs.YtgidbailiababaaGreatDoor.surgeRules
