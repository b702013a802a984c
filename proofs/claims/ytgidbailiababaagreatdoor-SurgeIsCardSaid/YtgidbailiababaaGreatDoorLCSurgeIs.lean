/- The closed facts of the row of SurgeIs. -/
import Derived.Test.YtgidbailiababaaGreatDoorRows
import Derived.JoinedOf
set_option linter.all false
namespace Go.Proofs.YtgidbailiababaaGreatDoor.surgeIs
open Go
theorem closed : joinedFacts Tryz.pinned.checked.prog 8 Tryz.f8 Rows.surgeIsSpec Rows.surgeIsRow = true := by kernel_rfl
end Go.Proofs.YtgidbailiababaaGreatDoor.surgeIs
