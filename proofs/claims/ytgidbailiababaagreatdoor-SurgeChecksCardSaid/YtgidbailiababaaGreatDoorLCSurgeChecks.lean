/- The closed facts of the row of SurgeChecks. -/
import Derived.Test.YtgidbailiababaaGreatDoorRows
import Derived.JoinedOf
set_option linter.all false
namespace Go.Proofs.YtgidbailiababaaGreatDoor.surgeChecks
open Go
theorem closed : joinedFacts Tryz.pinned.checked.prog 3 Tryz.f3 Rows.surgeChecksSpec Rows.surgeChecksRow = true := by kernel_rfl
end Go.Proofs.YtgidbailiababaaGreatDoor.surgeChecks
