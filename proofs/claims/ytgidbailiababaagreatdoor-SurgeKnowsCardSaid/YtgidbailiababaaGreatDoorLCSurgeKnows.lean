/- The closed facts of the row of SurgeKnows. -/
import Derived.Test.YtgidbailiababaaGreatDoorRows
import Derived.JoinedOf
set_option linter.all false
namespace Go.Proofs.YtgidbailiababaaGreatDoor.surgeKnows
open Go
theorem closed : joinedFacts Tryz.pinned.checked.prog 11 Tryz.f11 Rows.surgeKnowsSpec Rows.surgeKnowsRow = true := by kernel_rfl
end Go.Proofs.YtgidbailiababaaGreatDoor.surgeKnows
