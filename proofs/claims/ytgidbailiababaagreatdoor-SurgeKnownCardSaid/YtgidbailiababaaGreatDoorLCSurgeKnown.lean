/- The closed facts of the row of SurgeKnown. -/
import Derived.Test.YtgidbailiababaaGreatDoorRows
import Derived.JoinedOf
set_option linter.all false
namespace Go.Proofs.YtgidbailiababaaGreatDoor.surgeKnown
open Go
theorem closed : joinedFacts Tryz.pinned.checked.prog 16 Tryz.f16 Rows.surgeKnownSpec Rows.surgeKnownRow = true := by kernel_rfl
end Go.Proofs.YtgidbailiababaaGreatDoor.surgeKnown
