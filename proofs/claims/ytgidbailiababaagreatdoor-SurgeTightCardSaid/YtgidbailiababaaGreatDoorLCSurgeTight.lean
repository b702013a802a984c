/- The closed facts of the row of SurgeTight. -/
import Derived.Test.YtgidbailiababaaGreatDoorRows
import Derived.JoinedOf
set_option linter.all false
namespace Go.Proofs.YtgidbailiababaaGreatDoor.surgeTight
open Go
theorem closed : joinedFacts Tryz.pinned.checked.prog 10 Tryz.f10 Rows.surgeTightSpec Rows.surgeTightRow = true := by kernel_rfl
end Go.Proofs.YtgidbailiababaaGreatDoor.surgeTight
