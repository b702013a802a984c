/- The closed facts of the row of SurgeLater. -/
import Derived.Test.YtgidbailiababaaGreatDoorRows
import Derived.JoinedOf
set_option linter.all false
namespace Go.Proofs.YtgidbailiababaaGreatDoor.surgeLater
open Go
theorem closed : joinedFacts Tryz.pinned.checked.prog 7 Tryz.f7 Rows.surgeLaterSpec Rows.surgeLaterRow = true := by kernel_rfl
end Go.Proofs.YtgidbailiababaaGreatDoor.surgeLater
