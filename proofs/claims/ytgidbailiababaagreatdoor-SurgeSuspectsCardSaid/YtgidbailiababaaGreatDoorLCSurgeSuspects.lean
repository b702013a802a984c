/- The closed facts of the row of SurgeSuspects. -/
import Derived.Test.YtgidbailiababaaGreatDoorRows
import Derived.JoinedOf
set_option linter.all false
namespace Go.Proofs.YtgidbailiababaaGreatDoor.surgeSuspects
open Go
theorem closed : joinedFacts Tryz.pinned.checked.prog 14 Tryz.f14 Rows.surgeSuspectsSpec Rows.surgeSuspectsRow = true := by kernel_rfl
end Go.Proofs.YtgidbailiababaaGreatDoor.surgeSuspects
