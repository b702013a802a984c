/- The closed facts of the row of SurgeBoxes. -/
import Derived.Test.YtgidbailiababaaGreatDoorRows
import Derived.JoinedOf
set_option linter.all false
namespace Go.Proofs.YtgidbailiababaaGreatDoor.surgeBoxes
open Go
theorem closed : joinedFacts Tryz.pinned.checked.prog 4 Tryz.f4 Rows.surgeBoxesSpec Rows.surgeBoxesRow = true := by kernel_rfl
end Go.Proofs.YtgidbailiababaaGreatDoor.surgeBoxes
