/- The closed facts of the row of SurgeCovers. -/
import Derived.Test.YtgidbailiababaaGreatDoorRows
import Derived.JoinedOf
set_option linter.all false
namespace Go.Proofs.YtgidbailiababaaGreatDoor.surgeCovers
open Go
theorem closed : joinedFacts Tryz.pinned.checked.prog 15 Tryz.f15 Rows.surgeCoversSpec Rows.surgeCoversRow = true := by kernel_rfl
end Go.Proofs.YtgidbailiababaaGreatDoor.surgeCovers
