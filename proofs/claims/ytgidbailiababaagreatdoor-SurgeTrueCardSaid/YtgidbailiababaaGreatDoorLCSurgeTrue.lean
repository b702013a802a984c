/- The closed facts of the row of SurgeTrue. -/
import Derived.Test.YtgidbailiababaaGreatDoorRows
import Derived.JoinedOf
set_option linter.all false
namespace Go.Proofs.YtgidbailiababaaGreatDoor.surgeTrue
open Go
theorem closed : joinedFacts Tryz.pinned.checked.prog 12 Tryz.f12 Rows.surgeTrueSpec Rows.surgeTrueRow = true := by kernel_rfl
end Go.Proofs.YtgidbailiababaaGreatDoor.surgeTrue
