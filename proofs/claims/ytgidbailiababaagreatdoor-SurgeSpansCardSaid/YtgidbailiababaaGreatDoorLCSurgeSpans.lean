/- The closed facts of the row of SurgeSpans. -/
import Derived.Test.YtgidbailiababaaGreatDoorRows
import Derived.JoinedOf
set_option linter.all false
namespace Go.Proofs.YtgidbailiababaaGreatDoor.surgeSpans
open Go
theorem closed : joinedFacts Tryz.pinned.checked.prog 13 Tryz.f13 Rows.surgeSpansSpec Rows.surgeSpansRow = true := by kernel_rfl
end Go.Proofs.YtgidbailiababaaGreatDoor.surgeSpans
