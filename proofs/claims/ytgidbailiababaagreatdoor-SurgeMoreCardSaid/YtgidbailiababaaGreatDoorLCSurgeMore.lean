/- The closed facts of the row of SurgeMore. -/
import Derived.Test.YtgidbailiababaaGreatDoorRows
import Derived.JoinedOf
set_option linter.all false
namespace Go.Proofs.YtgidbailiababaaGreatDoor.surgeMore
open Go
theorem closed : joinedFacts Tryz.pinned.checked.prog 5 Tryz.f5 Rows.surgeMoreSpec Rows.surgeMoreRow = true := by kernel_rfl
end Go.Proofs.YtgidbailiababaaGreatDoor.surgeMore
