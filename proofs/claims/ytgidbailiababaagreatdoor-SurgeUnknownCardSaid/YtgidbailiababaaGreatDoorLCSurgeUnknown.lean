/- The closed facts of the row of SurgeUnknown. -/
import Derived.Test.YtgidbailiababaaGreatDoorRows
import Derived.JoinedOf
set_option linter.all false
namespace Go.Proofs.YtgidbailiababaaGreatDoor.surgeUnknown
open Go
theorem closed : joinedFacts Tryz.pinned.checked.prog 6 Tryz.f6 Rows.surgeUnknownSpec Rows.surgeUnknownRow = true := by kernel_rfl
end Go.Proofs.YtgidbailiababaaGreatDoor.surgeUnknown
